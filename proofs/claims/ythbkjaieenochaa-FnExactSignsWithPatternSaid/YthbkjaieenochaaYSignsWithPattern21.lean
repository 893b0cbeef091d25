/- Texts of one chain, in build order. -/
import Derived.Test.YthbkjaieenochaaYSignsWithPattern20
namespace Go.Proofs.Ythbkjaieenochaa
open Go.RowKit Go.Proofs.Ythbkjaieenochaa.P Go.Proofs.Ythbkjaieenochaa.L Go.Proofs.YthbkjaieenochaaW.PrintWords Go.Proofs.YthbkjaieenochaaW.PrintLast Go.Proofs.YthbkjaieenochaaW.PrintMore
set_option linter.unusedVariables false
set_option maxRecDepth 100000

theorem eachSigns_of {n : Nat} (hn : n ≤ 100) (h : EsOk n) : EachSigns n (esX n) := fun g lb w St hSt eg hf ok hst =>
 impl_eachSigns.callsG n hn (srX n) g lb w (fun w => impl_signRows.callsG n 100 (srX n) w h.1 (by omega) (by have := h.2.1; omega)) St hSt h.2.1 (esX n) eg hf 1000 h.2.2 (by omega) ok hst
theorem eachSigns_all {n : Nat} (h0 : 1 ≤ n) (h1 : n ≤ 4) : EachSigns n (esX n) := eachSigns_of (by omega) (es_all h0 h1)
end Go.Proofs.Ythbkjaieenochaa

namespace Go.Proofs.Ythbkjaieenochaa.P
open Go.RowKit Go.Proofs.YthbkjaieenochaaW.PrintWords Go.Proofs.YthbkjaieenochaaW.PrintLast Go.Proofs.YthbkjaieenochaaW.PrintMore
attribute [local go_sem] max2_int min2_int max_two min_two max_three min_three max_four min_four   -- for this text's walks alone
set_option linter.unusedVariables false
set_option linter.unusedSimpArgs false

def impl_copyTable.l0 : Nat → List (List Int) → List (List Int) → Int → Int → Option ((List (List Int)))
 | 0, _, _, _, _ => none
 | k + 1, x3, x7, x8, x9 => if x9 < x8 then (if 0 ≤ x9 then (if x9 < (x7.length : Int) then ((slices_Clone_int_int.f (rd_L1 x7 x9)).bind fun t741 => (if x3.length < 5864062014805 then (impl_copyTable.l0 k (x3 ++ [t741]) x7 x8 (wrap64 (x9 + 1))) else (none))) else (none)) else (none)) else (some x3)
def impl_copyTable.f (k : Nat) (l0 : List (List Int)) : Option ((List (List Int))) := impl_copyTable.l0 k (([] : List (List Int))) l0 (l0.length : Int) 0
set_option maxHeartbeats 8000000 in
set_option maxRecDepth 100000 in
theorem impl_copyTable.calls (k : Nat) (A0 : Option Addr) (c0 : Nat) (l0 : List (List Int)) (r : List (List Int)) (w : World) (hr0 : Kd.C (Kd.slice 3 (Kd.int .i64)) w A0 l0.length l0) (hc0 : l0.length ≤ c0) (h : impl_copyTable.f k l0 = some r) :
  Calls Try.prog 97 #[.slice A0 l0.length c0] w fun e w' => ∃ v0_ : Value, e = .returned (v0_) ∧ Kd.S (Kd.slice 3 (Kd.int .i64)) 28 w' w.heap.size (fun _ => True) v0_ r ∧ Below w.heap.size w w' := by
 have HR0 := Aside0.mk hr0
 have HC0 := Aside0.mk hc0
 clear hr0 hc0
 have HB := Aside0.mk (Below.refl w.heap.size w)
 have H : (impl_copyTable.l0 k (([] : List (List Int))) l0 (l0.length : Int) 0) = some r := h
 clear h
 obtain ⟨y737, hy737⟩ : ∃ y_ : List (List Int), y_ = (([] : List (List Int))) := ⟨_, rfl⟩
 replace H : (impl_copyTable.l0 k y737 l0 (l0.length : Int) 0) = some r := by first | (rw [hy737]; with_reducible exact H) | (have H2_ := (Option.bind_some _ _).symm.trans H; rw [hy737]; with_reducible exact H2_) | (have H2_ := (Option.bind_some _ _).symm.trans H; with_reducible exact H2_) | with_reducible exact H | (rw [hy737]; exact H) | exact H
 have Ny737 := Aside0.mk hy737
 clear hy737
 have H' := Aside0.mk H
 clear H
 go_enter Try.func97, Try.ntmps97
 go_wp2_with (first | ((with_reducible refine gate_dst (N := 6) rfl ?_); refine Kd.S_lit (Kd.slice 3 (Kd.int .i64)) _ 28 ?hg (N := 6) ?hd (xs := ([] : List (List Int))) (inner := []) (ok := fun _ => True) (okp := fun _ => True) ?hr ?hp (fun _ hk => hk) trivial (Below.refl _ _) (Nat.le_refl _) (by simp) ?_; (case hd => rfl); (case hg => rfl); (case hr => first | (go_simp; done) | (go_simp; rfl)); (case hp => exact (Reps.none _ _)); intro v738 w2 ho3 hb hg_ hnew_; clear hg_ hnew_; (first | rw [← Ny737.out] at ho3 | (simp only [Int.reduceToNat] at ho3; rw [← Ny737.out] at ho3)); have n0_ := Aside0.mk (Kd.S_lower ho3 (below_size (by repeat (first | (with_reducible first | exact HB.out | apply below_alloc | apply pw_below_drewN | apply below_drew1) | exact HB.out)))); have n1_ := Aside0.mk (below_step (by repeat (first | (with_reducible first | exact HB.out | apply below_alloc | apply pw_below_drewN | apply below_drew1) | exact HB.out)) hb); clear HB; have HO739 := n0_; have HB := n1_; clear n0_ n1_; clear hb ho3))
 go_loopg [3, 9] k (fun kq v3 v9 w' => ∃ (x3_1 : List (List Int)) (x9_1 : Int), v9 = .int .i64 x9_1 ∧ Aside0 (impl_copyTable.l0 kq x3_1 l0 (l0.length : Int) x9_1 = some r) ∧ Aside0 (kq ≤ k) ∧ Aside0 (Kd.S (Kd.slice 3 (Kd.int .i64)) 28 w' w.heap.size (fun _ => True) v3 x3_1) ∧ Aside0 (Below w.heap.size w w'))
 case atStart => exact ⟨(y737), (0), (by first | rfl | (simp; done) | (simp [*]; done)), H', ⟨Nat.le_refl _⟩, ⟨by (with_reducible repeat (first | apply Kd.S_alloc | apply Kd.S_drewN | apply Kd.S_drew)); exact HO739.out⟩, ⟨by repeat (first | (with_reducible first | exact HB.out | apply below_alloc | apply pw_below_drewN | apply below_drew1) | exact HB.out)⟩⟩
 case round =>
  clear H'
  try clear p2
  obtain ⟨x3_1, x9_1, rfl, HA, HK1, HO_3, HB⟩ := hrel
  cases gk with
  | zero => exact absurd HA.out (by simp [impl_copyTable.l0])
  | succ k1 =>
   have H := HA.out
   clear HA
   simp only [impl_copyTable.l0] at H
   by_cases c4 : x9_1 < (l0.length : Int)
   ·rw [if_pos c4] at H
    have c4b0 : decide (x9_1 < (l0.length : Int)) = true := decide_eq_true c4
    clear c4
    by_cases c5 : 0 ≤ x9_1
    ·rw [if_pos c5] at H
     have c5b0 : decide (0 ≤ x9_1) = true := decide_eq_true c5
     clear c5
     by_cases c6 : x9_1 < (l0.length : Int)
     ·rw [if_pos c6] at H
      have c6b0 : decide (x9_1 < (l0.length : Int)) = true := decide_eq_true c6
      clear c6
      replace H := Option.bind_eq_some_iff.mp H
      obtain ⟨t741, A70, H⟩ := H
      replace H : (if x3_1.length < 5864062014805 then (impl_copyTable.l0 k1 (x3_1 ++ [t741]) l0 (l0.length : Int) (wrap64 (x9_1 + 1))) else (none)) = some r := H
      have A7 := Aside0.mk A70
      clear A70
      by_cases c8 : x3_1.length < 5864062014805
      ·rw [if_pos c8] at H
       have LMc8 := Aside0.mk c8
       clear c8
       obtain ⟨y744, hy744⟩ : ∃ y_ : List (List Int), y_ = (x3_1 ++ [t741]) := ⟨_, rfl⟩
       replace H : (impl_copyTable.l0 k1 y744 l0 (l0.length : Int) (wrap64 (x9_1 + 1))) = some r := by first | (rw [hy744]; with_reducible exact H) | (have H2_ := (Option.bind_some _ _).symm.trans H; rw [hy744]; with_reducible exact H2_) | (have H2_ := (Option.bind_some _ _).symm.trans H; with_reducible exact H2_) | with_reducible exact H | (rw [hy744]; exact H) | exact H
       have Ny744 := Aside0.mk hy744
       clear hy744
       have H' := Aside0.mk H
       clear H
       have p740 : 0 ≤ (x9_1 : Int) := of_decide_eq_true (by first | (with_reducible assumption) | assumption)
       have q740 : x9_1 < (l0.length : Int) := of_decide_eq_true (by first | (with_reducible assumption) | assumption)
       obtain ⟨ad740, A740_0, c740_0, e740, hx740_0, hl740_0, hi740_0⟩ := at_L1 HR0.out x9_1 p740 q740
       cases e740
       (try replace hx740_0 := (HB.out.cell (World.block_lt_of_cell? w _ hx740_0)).trans hx740_0)
       have HR740_0 := Aside0.mk hi740_0
       have HC740_0 := Aside0.mk hl740_0
       clear hi740_0 hl740_0
       replace p740 := eq_true p740
       replace q740 := eq_true q740
       go_wp2_with (first | ((with_reducible refine gate_callee (f := 100) rfl ?_); refine goesL_ (some 15) rfl rfl Try.func100 (by kernel_rfl) rfl #[.slice A740_0 (rd_L1 l0 x9_1).length c740_0] rfl (by (try simp only [List.map_toArray, List.map_cons, List.map_nil]); first | done | rfl | (simp only [List.length_drop, List.length_take]; rfl)) ?_; (with_reducible refine (slices_Clone_int_int.calls _ _ (rd_L1 l0 x9_1) t741 _ ?side1 ?side2 A7.out).mono ?_); (case side1 => repeat (first | exact (Kd.C_below HR740_0.out HB.out) | (with_reducible refine Kd.C_alloc ?_ _) | (with_reducible refine Kd.C_drewN ?_ _) | (with_reducible refine Kd.C_drew ?_))); (case side2 => exact HC740_0.out); rintro e w9 ⟨v742, rfl, ho0, hb⟩; refine ⟨_, rfl, ?_⟩; have n0_ := Aside0.mk (Kd.S_elder' (by (with_reducible repeat (first | apply Kd.S_alloc | apply Kd.S_drewN | apply Kd.S_drew)); exact HO_3.out) (Kd.R_base ho0) hb); have n1_ := Aside0.mk (Kd.R_lower ho0 (below_size (by repeat (first | (with_reducible first | exact HB.out | apply below_alloc | apply pw_below_drewN | apply below_drew1) | exact HB.out)))); have n2_ := Aside0.mk (below_step (by repeat (first | (with_reducible first | exact HB.out | apply below_alloc | apply pw_below_drewN | apply below_drew1) | exact HB.out)) hb); clear HO_3; clear HB; have HO_3 := n0_; have HO743 := n1_; have HB := n2_; clear n0_ n1_ n2_; (try clear hb); (try clear hb2); (try clear hk); (try clear hi); (try clear ho0); obtain ⟨Ao11, co11, eo11⟩ := Kd.R_slice HO743.out; subst eo11) | ((with_reducible refine gate_builtin (b := .append) (xs := #[.tmp 13, .tmp 16]) rfl ?_); at_builtin; refine Kd.S_append (Kd.slice 3 (Kd.int .i64)) (w0 := w) w.heap.size rfl (.tmp 13) (.tmp 16) 22 28 (.slice none 0 0) 24 rfl Try.underlying22 info28 rfl (by decide) (by omega) u3 x3_1 t741 [.slice Ao11 t741.length co11] (fun _ => True) (fun k_ => some k_ = (.slice Ao11 t741.length co11 : Value).ownBlock) rfl rfl ?aP (fun k_ hk_ => ((Kd.R_mono (ok' := fun k_ => ((fun _ => True)) k_ ∧ some k_ ≠ (u3 : Value).ownBlock) (Kd.R_apart' (HO743.out) (Kd.S_typed HO_3.out) (by decide)) (fun k_ hk => ⟨trivial, hk.2⟩))).1 k_ hk_.symm) ?aF ?aO ?aB ?aS ?aL ?_; (case aP => exact Kd.M_row (Kd.R_mono (Kd.R_tight rfl (Kd.R_mono (ok' := fun k_ => ((fun _ => True)) k_ ∧ some k_ ≠ (u3 : Value).ownBlock) (Kd.R_apart' (HO743.out) (Kd.S_typed HO_3.out) (by decide)) (fun k_ hk => ⟨trivial, hk.2⟩))) (fun _ h_ => h_))); (case aB => exact (by repeat (first | (with_reducible first | exact HB.out | apply below_alloc | apply pw_below_drewN | apply below_drew1) | exact HB.out))); (case aF => exact (fun _ _ => trivial)); (case aO => exact (by (with_reducible repeat (first | apply Kd.S_alloc | apply Kd.S_drewN | apply Kd.S_drew)); exact Kd.S_mono HO_3.out (fun k_ hk => ⟨trivial, fun e_ => hk.2 e_⟩))); (case aS => exact (below_size (by repeat (first | (with_reducible first | exact HB.out | apply below_alloc | apply pw_below_drewN | apply below_drew1) | exact HB.out)))); (case aL => have := LMc8.out; omega); intro v745 w10 ho hb hg hat; rw [← Ny744.out] at ho; have n0_ := Aside0.mk (hb); have n1_ := Aside0.mk (ho); clear HB; clear HO_3; clear HO743; have HB := n0_; have HO746 := n1_; clear n0_ n1_; clear ho hb hg hat))
       go_roundg k1
       case measure => have := HK1.out; omega
       case rel => exact ⟨(y744), (wrap64 (x9_1 + 1)), (by first | rfl | (simp; done) | (simp [*]; done)), H', ⟨by have := HK1.out; omega⟩, ⟨by (with_reducible repeat (first | apply Kd.S_alloc | apply Kd.S_drewN | apply Kd.S_drew)); exact HO746.out⟩, ⟨by repeat (first | (with_reducible first | exact HB.out | apply below_alloc | apply pw_below_drewN | apply below_drew1) | exact HB.out)⟩⟩
      ·rw [if_neg c8] at H
       exact absurd H (by simp)
     ·rw [if_neg c6] at H
      exact absurd H (by simp)
    ·rw [if_neg c5] at H
     exact absurd H (by simp)
   ·rw [if_neg c4] at H
    have c4b0 : decide (x9_1 < (l0.length : Int)) = false := decide_eq_false c4
    clear c4
    obtain rfl := Option.some.inj H
    go_wp2
    go_ret
    exact ⟨_, by first | rfl | (simp [errW_none, errW_some] <;> rfl) | (simp [*, errW_none, errW_some] <;> rfl), by (with_reducible repeat (first | apply Kd.S_alloc | apply Kd.S_drewN | apply Kd.S_drew)); exact HO_3.out, by repeat (first | (with_reducible first | exact HB.out | apply below_alloc | apply pw_below_drewN | apply below_drew1) | exact HB.out)⟩

end Go.Proofs.Ythbkjaieenochaa.P

namespace Go.Proofs.Ythbkjaieenochaa.L
open Go.RowKit Go.Proofs.Ythbkjaieenochaa Go.Proofs.Ythbkjaieenochaa.P Go.Proofs.YthbkjaieenochaaW.PrintWords Go.Proofs.YthbkjaieenochaaW.PrintLast Go.Proofs.YthbkjaieenochaaW.PrintMore
set_option linter.unusedVariables false
set_option linter.unusedSimpArgs false

theorem info_tabsE : (Try.prog.info? 22).map (fun i => (i.zero, i.size, i.bytes)) = some (some (.slice none 0 0), 1, 24) := by kernel_rfl
theorem copyE_l0 (l : List (List Int)) (hf : fewRows l) : ∀ (d i : Nat), i + d = l.length → Ev (fun k => impl_copyTable.l0 k (l.take i) l l.length i) l := by
 have hl := hf.1
 intro d
 induction d with
 | zero =>
  intro i hi
  refine Ev.step (fun k => by rw [impl_copyTable.l0]) ?_
  rw [List.take_of_length_le (by omega)]
  exact Ev.ite_neg (by omega) (Ev.now _)
 | succ d ih =>
  intro i hi
  refine Ev.step (fun k => by rw [impl_copyTable.l0]) ?_
  have hlt : i < l.length := by omega
  have hnext := ih (i + 1) (by omega)
  rw [List.take_succ_eq_append_getElem hlt] at hnext
  have hr := hf.2 _ (List.getElem_mem hlt)
  rw [rd1_at l i hlt, wrapS i (by omega)]
  refine Ev.ite_pos (by omega) (Ev.ite_pos (by omega) (Ev.ite_pos (by omega) (Ev.some_bind (a := l[i]) (by unfold slices_Clone_int_int.f; rw [if_pos (by omega)]) (Ev.ite_pos ?_ hnext))))
  rw [List.length_take]; omega
theorem copyE_ev (l : List (List Int)) (hf : fewRows l) : Ev (fun k => impl_copyTable.f k l) l := by
 have := copyE_l0 l hf l.length 0 (by omega)
 simpa [impl_copyTable.f] using this
theorem slice3E {α : Type} {d : Kd α} {e : Nat} {W : World} {B : Nat} {ok : Nat → Prop} {v : Value} {xs : List α} (h : Kd.S d e W B ok v xs) : ∃ A n c, v = .slice A n c := by
 obtain ⟨A, c, rfl⟩ := Kd.R_slice (Kd.S_R h)
 exact ⟨A, _, c, rfl⟩
theorem below_drewE {W w1 : World} (h : Below W.drew.heap.size W.drew w1) : Below W.heap.size W w1 := ⟨h.os, h.tape, h.output, h.size, h.block⟩
theorem heap_grewE {W W' : World} {m : Nat} (h : m ≤ W.heap.size) (he : ∀ k, k < m → W'.heap[k]? = W.heap[k]?) : m ≤ W'.heap.size := by
 rcases Nat.eq_zero_or_pos m with h0 | h0
 ·omega
 ·have h1 := he (m - 1) (by omega)
  rw [Array.getElem?_eq_getElem (show m - 1 < W.heap.size by omega)] at h1
  have := (Array.getElem?_eq_some_iff.1 h1).1
  omega
/-- The state: the variable bo holds the tables that were kept, copied. -/
structure TbSt (W0 : World) (B bo : Nat) (cs : Nat → List (List (List Int))) (j : Nat) (W : World) (ok : Nat → Prop) : Prop where
 old : ∀ k, k < W0.heap.size → ok k
 lt : ∀ k, ok k → k < W.heap.size
 size : W0.heap.size ≤ W.heap.size
 low : ∀ k, k < B → W.heap[k]? = W0.heap[k]?
 out : ∃ v, W.heap[bo]? = some (.cells #[v] 39 (0, 0)) ∧ Kd.S tabK 22 W B (fun k => ok k ∧ k ≠ bo) v (cs j)
theorem TbSt.stays (W0 : World) (B bo : Nat) (cs : Nat → List (List (List Int))) (hB : B ≤ bo) (hbo : bo < W0.heap.size) : Stays (TbSt W0 B bo cs) := by
 refine ⟨fun h => h.lt, fun {j W W' ok} h hm => ?_⟩
 obtain ⟨v, hc, hS⟩ := h.out
 have hlt : ∀ k, ok k → k < W'.heap.size := fun k hk => by
  have h1 := hm k hk
  rw [Array.getElem?_eq_getElem (h.lt k hk)] at h1
  exact (Array.getElem?_eq_some_iff.1 h1).1
 refine ⟨h.old, hlt, heap_grewE h.size (fun k hk => hm k (h.old k hk)), fun k hk => (hm k (h.old k (by omega))).trans (h.low k hk), v, (hm bo (h.old bo hbo)).trans hc, ?_⟩
 exact Kd.S_step hS (fun k hk _ => hm k hk.1)
/-- A table has been appended to what the variable holds. -/
theorem tb_app {W w1 w4 : World} {B bo : Nat} {okS okN : Nat → Prop} {v v4 : Value} {L L1 : List (List (List Int))} (hcell : W.heap[bo]? = some (.cells #[v] 39 (0, 0))) (hS : Kd.S tabK 22 W B okS v L) (hSb : ∀ k, okS k → k ≠ bo) (hb1 : Below W.heap.size W w1)
  (hg : w1.grownBy w4 v.ownBlock) (ho : Kd.S tabK 22 w4 B okN v4 L1) (hNb : ∀ k, okN k → k ≠ bo) (hat : v4.ownBlock = v.ownBlock ∨ ∃ b, v4.ownBlock = some b ∧ w1.heap.size ≤ b) :
  w4.cell? ⟨bo, 0, none⟩ = some v ∧ w4.frozen? ⟨bo, 0, none⟩ = false ∧ (w4.setCell ⟨bo, 0, none⟩ v4).heap[bo]? = some (.cells #[v4] 39 (0, 0)) ∧ Kd.S tabK 22 (w4.setCell ⟨bo, 0, none⟩ v4) B okN v4 L1 ∧ Touch W (w4.setCell ⟨bo, 0, none⟩ v4) (tD bo v) := by
 have hv : ∀ k, some k = v.ownBlock → k ≠ bo := fun k e => hSb k ((Kd.S_R hS).1 k e.symm)
 have ht : Touch W w4 (fun k => some k = v.ownBlock) := (Touch.of_below hb1 _).trans ⟨hg.os, hg.tape, hg.output, hg.size, fun i hi hn => hg.block i hi hn⟩ (fun k hk => .inl hk)
 have h1 := ht.blk hcell (fun e => hv _ e rfl)
 exact ⟨blk_cell h1 0, blk_frozen h1 0, blk_put h1 0 v4 rfl, Kd.S_far ho hNb v4, (ht.mono (fun k hk => .inr hk)).set ⟨bo, 0, none⟩ (.inl (.inl rfl)) v4⟩
set_option maxHeartbeats 4000000 in
set_option maxRecDepth 100000 in
theorem allSigns_1.calls (W0 : World) (B bf bo gk : Nat) (lbk : Array Value) (cs : Nat → List (List (List Int))) (All : List (List (List Int))) (keep : List (List Int) → Bool) (hbf : bf < B) (hB : B ≤ bo) (hbo : bo < W0.heap.size)
  (hfn : W0.heap[bf]? = some (.cells #[.func (.func gk) #[] lbk] 34 (0, 0)))
  (eg : ∀ args w, (callFunc gk args).run Try.prog w = .ok (.enter gk args) w)
  (hkp : ∀ (T : List (List Int)) (A : Option Addr) (c : Nat) (W : World), T ∈ All → (∀ k, k < B → W.heap[k]? = W0.heap[k]?) → Kd.C (Kd.slice 3 (Kd.int .i64)) W A T.length T → T.length ≤ c → Calls Try.prog gk (#[.slice A T.length c] ++ lbk) W fun e w' => e = .returned (.bool (keep T)) ∧ Below W.heap.size W w')
  (hcs : ∀ (j : Nat) (T : List (List Int)), All[j]? = some T → cs (j + 1) = cs j ++ (if keep T = true then [T] else []))
  (hfew : ∀ T ∈ All, fewRows T) (hlen : ∀ j, (cs j).length ≤ 1000)
  (j : Nat) (T : List (List Int)) (A : Option Addr) (c : Nat) (W : World) (ok : Nat → Prop) (hT : All[j]? = some T) (hst : TbSt W0 B bo cs j W ok) (hF : Kd.F (Kd.slice 3 (Kd.int .i64)) W (fun k => ¬ ok k ∧ k < W.heap.size) A T.length T) (hc : T.length ≤ c) :
  Calls Try.prog 96 (#[.slice A T.length c] ++ #[.pointer (some ⟨bf, 0, none⟩), .pointer (some ⟨bo, 0, none⟩)]) W (Stepped (TbSt W0 B bo cs) (j + 1) W ok) := by
 have hmem := List.mem_of_getElem? hT
 have hST := TbSt.stays W0 B bo cs hB hbo
 have HCF := Aside0.mk (hkp T A c W hmem hst.low (Kd.F_now hF) hc)
 have hstep := hcs j T hT
 obtain ⟨v, hcell, hS⟩ := hst.out
 have hfw : W.heap[bf]? = some (.cells #[.func (.func gk) #[] lbk] 34 (0, 0)) := (hst.low bf hbf).trans hfn
 have hk1 : W.cell? ⟨bf, 0, none⟩ = some (.func (.func gk) #[] lbk) := blk_cell hfw 0
 obtain ⟨kc, hkc⟩ := (copyE_ev T (hfew T hmem)).rounds
 have HCP := Aside0.mk (fun W1 (h : Kd.C (Kd.slice 3 (Kd.int .i64)) W1 A T.length T) => impl_copyTable.calls kc A c T T W1 h hc hkc)
 have hLl := hlen j
 have HST := Aside0.mk hst
 have HSTY := Aside0.mk hST
 have HFR := Aside0.mk hF
 obtain ⟨L, hL⟩ : ∃ L, L = cs j := ⟨_, rfl⟩
 rw [← hL] at hS hLl hstep
 have HS := Aside0.mk hS
 have HSTEP := Aside0.mk hstep
 have HCELL := Aside0.mk hcell
 have HLJ := Aside0.mk hL
 have hbw : bo < W.heap.size := blk_lt hcell
 have hBW : B ≤ W.heap.size := by omega
 have HBW := Aside0.mk hBW
 have HBOW := Aside0.mk hbw
 cases hq : keep T with
 | false =>
  rw [hq] at HCF HSTEP
  clear hkp hcs hfew hlen hT hst hF hmem hST hstep hcell hS hfw hkc hL hq hfn hbw hBW hLl
  go_enter Try.func96, Try.ntmps96
  go_wp2_with (go_at_fn gk; refine HCF.out.mono ?_; rintro e w1 ⟨rfl, hb⟩; have HB1 := Aside0.mk hb; clear hb)
  go_ret
  have h2 := HSTY.out.below HST.out HB1.out
  refine ⟨rfl, ok, ⟨h2.old, h2.lt, h2.size, h2.low, ?_⟩, Touch.of_below HB1.out _, fun k h => .inl h⟩
  rw [HSTEP.out, if_neg (by simp), List.append_nil, HLJ.out]
  exact h2.out
 | true =>
  rw [hq] at HCF HSTEP
  obtain ⟨Av, nv, cv, rfl⟩ := slice3E hS
  have hout : W.cell? ⟨bo, 0, none⟩ = some (.slice Av nv cv) := blk_cell hcell 0
  have HLL := Aside0.mk (show (L.length + 1) * 24 ≤ 140737488355328 by omega)
  have HOUT := Aside0.mk hout
  clear hkp hcs hfew hlen hT hst hF hmem hST hstep hcell hS hfw hkc hL hq hfn hbw hBW hLl hout
  go_enter Try.func96, Try.ntmps96
  go_wp2_with (go_at_fn gk; refine HCF.out.mono ?_; rintro e w1 ⟨rfl, hb⟩; have HB1 := Aside0.mk hb; have hout := pw_cell_below HB1.out HOUT.out; clear hb)
  go_region_law (first
   | (refine goes_ Try.func97 (by kernel_rfl) rfl #[.slice A T.length c] (by rfl) rfl rfl (by (try simp only [List.map_toArray, List.map_cons, List.map_nil]); first | done | rfl) ?_; refine (HCP.out _ (by repeat (first | exact Kd.F_now (Kd.F_below HFR.out HB1.out) | refine Kd.C_drew ?_))).mono ?_; rintro e w2 ⟨v1, rfl, hS1, hb1⟩; obtain ⟨A1, n1, c1, rfl⟩ := slice3E hS1; have hk2 := pw_cell_below (below_drewE hb1) hout; have hk3 := pw_cell_below (below_alloc (Below.refl w2.heap.size w2) (.cells #[.slice A1 n1 c1] 22)) hk2; have HB2 := Aside0.mk (below_step HB1.out (below_drewE hb1)); have HB21 := Aside0.mk (below_drewE hb1); have HS1 := Aside0.mk hS1; clear hS1; refine ⟨_, rfl, ?_⟩)
   | (refine Kd.S_append_step tabK (w0 := W) B (by rfl) (.tmp 8) (.tmp 11) 39 22 (.slice none 0 0) 24 (by rfl) Try.underlying39 info_tabsE rfl (by decide) (by omega) (.slice Av nv cv) L T [.slice A1 n1 c1] (fun k => (ok k ∧ k ≠ bo) ∨ W.heap.size ≤ k) (fun k => W.heap.size ≤ k) (by rfl) (by rfl) ⟨_, rfl, Kd.S_lower (Kd.S_mono (Kd.S_bound HS1.out) (fun k hk => Nat.le_trans HB1.out.size hk.2.1)) (Nat.le_trans HBW.out HB1.out.size)⟩ ?aP ?aF ?aO ?aB ?aS HLL.out ?_; (case aP => exact fun k hk => ⟨.inr hk, fun e => by have := Kd.S_lt HS.out k e.symm; omega⟩); (case aF => exact fun k hk => .inr (Nat.le_trans HB2.out.size hk)); (case aO => exact Kd.S_mono (Kd.S_old HS.out HB2.out) (fun k hk => ⟨.inl hk.1, by have := hk.2; omega⟩)); (case aB => exact HB2.out.mono HBW.out); (case aS => exact Nat.le_trans HBW.out HB2.out.size); intro v4 w4 ho4 hb4 hg4 hat4; obtain ⟨A4, n4, c4, rfl⟩ := slice3E ho4; obtain ⟨hk4, hf4, hc4, hs4, ht4⟩ := tb_app HCELL.out HS.out (fun k hk => hk.2) HB2.out hg4 ho4 (fun k hk => hk.elim (fun h => h.2) (fun h => by have := HBOW.out; omega)) hat4; have HE4 := Aside0.mk hc4; have HS4 := Aside0.mk hs4; have HT4 := Aside0.mk ht4; clear ho4 hb4 hg4 hat4 hc4 hs4 ht4))
  all_goals
   go_wp2
   go_ret
   have hto := HT4.out.mono (S' := ok) (fun k hk => hk.elim (fun e => by rw [e]; exact HST.out.old _ hbo) (fun e => ((Kd.S_R HS.out).1 k e.symm).1))
   refine ⟨rfl, fun k => ok k ∨ (W.heap.size ≤ k ∧ k < (w4.setCell ⟨bo, 0, none⟩ (.slice A4 n4 c4)).heap.size), ⟨fun k hk => .inl (HST.out.old k hk), ?_, Nat.le_trans HST.out.size hto.size, ?_, _, HE4.out, ?_⟩, hto, fun k hk => hk.imp id (fun h => h.1)⟩
   ·exact fun k hk => hk.elim (fun h => Nat.lt_of_lt_of_le (HST.out.lt k h) hto.size) (fun h => h.2)
   ·intro k hk
    refine (HT4.out.heap (by have := HBW.out; omega) (fun h => h.elim (fun e => by omega) (fun e => by have := Kd.S_base HS.out k e.symm; omega))).trans (HST.out.low k hk)
   ·rw [HSTEP.out, if_pos trivial]
    exact Kd.S_mono (Kd.S_bound HS4.out) (fun k hk => ⟨hk.1.elim (fun h => .inl h.1) (fun h => .inr ⟨h, hk.2.2.1⟩), hk.1.elim (fun h => h.2) (fun h => by have := HBOW.out; omega)⟩)
end Go.Proofs.Ythbkjaieenochaa.L

namespace Go.Proofs.Ythbkjaieenochaa.P
open Go.RowKit Go.Proofs.YthbkjaieenochaaW.PrintWords Go.Proofs.YthbkjaieenochaaW.PrintLast Go.Proofs.YthbkjaieenochaaW.PrintMore
attribute [local go_sem] max2_int min2_int max_two min_two max_three min_three max_four min_four   -- for this text's walks alone
set_option linter.unusedVariables false
set_option linter.unusedSimpArgs false

def bits_Mul64.f (a0 : Int) (a1 : Int) : Option (Int × Int) := some (IntKind.u64.wrap ((IntKind.u64.wrap ((IntKind.u64.wrap ((a0 / 4294967296) * (a1 / 4294967296))) + ((IntKind.u64.wrap ((IntKind.u64.wrap ((a0 / 4294967296) * (Go.bits .and .u64 a1 4294967295))) + ((IntKind.u64.wrap ((Go.bits .and .u64 a0 4294967295) * (Go.bits .and .u64 a1 4294967295))) / 4294967296))) / 4294967296))) + ((IntKind.u64.wrap ((Go.bits .and .u64 (IntKind.u64.wrap ((IntKind.u64.wrap ((a0 / 4294967296) * (Go.bits .and .u64 a1 4294967295))) + ((IntKind.u64.wrap ((Go.bits .and .u64 a0 4294967295) * (Go.bits .and .u64 a1 4294967295))) / 4294967296))) 4294967295) + (IntKind.u64.wrap ((Go.bits .and .u64 a0 4294967295) * (a1 / 4294967296))))) / 4294967296)), IntKind.u64.wrap (a0 * a1))
set_option maxHeartbeats 8000000 in
set_option maxRecDepth 100000 in
theorem bits_Mul64.calls (a0 : Int) (a1 : Int) (r1 : Int) (r2 : Int) (w : World) (h : bits_Mul64.f a0 a1 = some (r1, r2)) :
  Calls Try.prog 112 #[.int .u64 a0, .int .u64 a1] w fun e w' => e = .returned (.tuple #[.int .u64 r1, .int .u64 r2]) ∧ Drawn0 w w' := by
 have H : (some (IntKind.u64.wrap ((IntKind.u64.wrap ((IntKind.u64.wrap ((a0 / 4294967296) * (a1 / 4294967296))) + ((IntKind.u64.wrap ((IntKind.u64.wrap ((a0 / 4294967296) * (Go.bits .and .u64 a1 4294967295))) + ((IntKind.u64.wrap ((Go.bits .and .u64 a0 4294967295) * (Go.bits .and .u64 a1 4294967295))) / 4294967296))) / 4294967296))) + ((IntKind.u64.wrap ((Go.bits .and .u64 (IntKind.u64.wrap ((IntKind.u64.wrap ((a0 / 4294967296) * (Go.bits .and .u64 a1 4294967295))) + ((IntKind.u64.wrap ((Go.bits .and .u64 a0 4294967295) * (Go.bits .and .u64 a1 4294967295))) / 4294967296))) 4294967295) + (IntKind.u64.wrap ((Go.bits .and .u64 a0 4294967295) * (a1 / 4294967296))))) / 4294967296)), IntKind.u64.wrap (a0 * a1))) = some (r1, r2) := h
 clear h
 simp only [Option.some.injEq, Prod.mk.injEq] at H
 obtain ⟨rfl, rfl⟩ := H
 go_enter Try.func112, Try.ntmps112
 go_wp2
 go_ret2
 exact ⟨by first | rfl | (simp; done) | (simp [*]; done), by repeat (first | exact Drawn0.refl _ | apply Drawn0.step)⟩

end Go.Proofs.Ythbkjaieenochaa.P

namespace Go.Proofs.Ythbkjaieenochaa.P
open Go.RowKit Go.Proofs.YthbkjaieenochaaW.PrintWords Go.Proofs.YthbkjaieenochaaW.PrintLast Go.Proofs.YthbkjaieenochaaW.PrintMore
attribute [local go_sem] max2_int min2_int max_two min_two max_three min_three max_four min_four   -- for this text's walks alone
set_option linter.unusedVariables false
set_option linter.unusedSimpArgs false

def bits_Mul.f (a0 : Int) (a1 : Int) : Option (Int × Int) := (bits_Mul64.f a0 a1).bind fun bt133 => (some (bt133.1, bt133.2))
set_option maxHeartbeats 8000000 in
set_option maxRecDepth 100000 in
theorem bits_Mul.calls (a0 : Int) (a1 : Int) (r1 : Int) (r2 : Int) (w : World) (h : bits_Mul.f a0 a1 = some (r1, r2)) :
  Calls Try.prog 101 #[.int .u64 a0, .int .u64 a1] w fun e w' => e = .returned (.tuple #[.int .u64 r1, .int .u64 r2]) ∧ Drawn0 w w' := by
 have H : ((bits_Mul64.f a0 a1).bind fun bt133 => (some (bt133.1, bt133.2))) = some (r1, r2) := h
 clear h
 replace H := Option.bind_eq_some_iff.mp H
 obtain ⟨⟨t133, t134⟩, A30, H⟩ := H
 replace H : (some (t133, t134)) = some (r1, r2) := H
 have A3 := Aside0.mk A30
 clear A30
 simp only [Option.some.injEq, Prod.mk.injEq] at H
 obtain ⟨rfl, rfl⟩ := H
 go_enter Try.func101, Try.ntmps101
 go_wp2_with (first | ((with_reducible refine gate_callee (f := 112) rfl ?_); refine goesL_ (some 25) rfl rfl Try.func112 (by kernel_rfl) rfl #[.int .u64 a0, .int .u64 a1] rfl (by (try simp only [List.map_toArray, List.map_cons, List.map_nil]); first | done | rfl | (simp only [List.length_drop, List.length_take]; rfl)) ?_; (with_reducible refine (bits_Mul64.calls a0 a1 t133 t134 _ A3.out).mono ?_); rintro e w' ⟨rfl, ⟨nd, rfl⟩⟩; refine ⟨_, rfl, ?_⟩))
 go_ret2
 exact ⟨by first | rfl | (simp; done) | (simp [*]; done), by repeat (first | exact Drawn0.refl _ | apply Drawn0.step)⟩

end Go.Proofs.Ythbkjaieenochaa.P

namespace Go.Proofs.Ythbkjaieenochaa.P
open Go.RowKit Go.Proofs.YthbkjaieenochaaW.PrintWords Go.Proofs.YthbkjaieenochaaW.PrintLast Go.Proofs.YthbkjaieenochaaW.PrintMore
attribute [local go_sem] max2_int min2_int max_two min_two max_three min_three max_four min_four   -- for this text's walks alone
set_option linter.unusedVariables false
set_option linter.unusedSimpArgs false

def impl_joined.f (l0 : List Int) (a1 : Int) (a2 : Int) : Option (List Int) := (slices_Clone_int_int.f l0).bind fun t731 => (if 0 ≤ a1 then (if a1 < (t731.length : Int) then (if 0 ≤ a2 then (if a2 < (t731.length : Int) then (some ((t731.set (a1 : Int).toNat a2).set (a2 : Int).toNat a1)) else (none)) else (none)) else (none)) else (none))
set_option maxHeartbeats 8000000 in
set_option maxRecDepth 100000 in
theorem impl_joined.calls (A0 : Option Addr) (c0 : Nat) (l0 : List Int) (a1 : Int) (a2 : Int) (r : List Int) (w : World) (hr0 : Kd.C (Kd.int .i64) w A0 l0.length l0) (hc0 : l0.length ≤ c0) (h : impl_joined.f l0 a1 a2 = some r) :
  Calls Try.prog 73 #[.slice A0 l0.length c0, .int .i64 a1, .int .i64 a2] w fun e w' => ∃ v0_ : Value, e = .returned (v0_) ∧ Kd.R (Kd.int .i64) 3 w' w.heap.size (fun _ => True) v0_ r ∧ Below w.heap.size w w' := by
 have HR0 := Aside0.mk hr0
 have HC0 := Aside0.mk hc0
 clear hr0 hc0
 have HB := Aside0.mk (Below.refl w.heap.size w)
 have H : ((slices_Clone_int_int.f l0).bind fun t731 => (if 0 ≤ a1 then (if a1 < (t731.length : Int) then (if 0 ≤ a2 then (if a2 < (t731.length : Int) then (some ((t731.set (a1 : Int).toNat a2).set (a2 : Int).toNat a1)) else (none)) else (none)) else (none)) else (none))) = some r := h
 clear h
 replace H := Option.bind_eq_some_iff.mp H
 obtain ⟨t731, A40, H⟩ := H
 replace H : (if 0 ≤ a1 then (if a1 < (t731.length : Int) then (if 0 ≤ a2 then (if a2 < (t731.length : Int) then (some ((t731.set (a1 : Int).toNat a2).set (a2 : Int).toNat a1)) else (none)) else (none)) else (none)) else (none)) = some r := H
 have A4 := Aside0.mk A40
 clear A40
 by_cases c5 : 0 ≤ a1
 ·rw [if_pos c5] at H
  have c5b0 : decide (0 ≤ a1) = true := decide_eq_true c5
  clear c5
  by_cases c6 : a1 < (t731.length : Int)
  ·rw [if_pos c6] at H
   have c6b0 : decide (a1 < (t731.length : Int)) = true := decide_eq_true c6
   clear c6
   obtain ⟨y734, hy734⟩ : ∃ y_ : List Int, y_ = (t731.set (a1 : Int).toNat a2) := ⟨_, rfl⟩
   replace H : (if 0 ≤ a2 then (if a2 < (t731.length : Int) then (some (y734.set (a2 : Int).toNat a1)) else (none)) else (none)) = some r := by first | (rw [hy734]; with_reducible exact H) | (have H2_ := (Option.bind_some _ _).symm.trans H; rw [hy734]; with_reducible exact H2_) | (have H2_ := (Option.bind_some _ _).symm.trans H; with_reducible exact H2_) | with_reducible exact H | (rw [hy734]; exact H) | exact H
   have Ny734 := Aside0.mk hy734
   clear hy734
   by_cases c8 : 0 ≤ a2
   ·rw [if_pos c8] at H
    have c8b0 : decide (0 ≤ a2) = true := decide_eq_true c8
    clear c8
    by_cases c9 : a2 < (t731.length : Int)
    ·rw [if_pos c9] at H
     have c9b0 : decide (a2 < (t731.length : Int)) = true := decide_eq_true c9
     clear c9
     obtain ⟨y735, hy735⟩ : ∃ y_ : List Int, y_ = (y734.set (a2 : Int).toNat a1) := ⟨_, rfl⟩
     replace H : (some y735) = some r := by first | (rw [hy735]; with_reducible exact H) | (have H2_ := (Option.bind_some _ _).symm.trans H; rw [hy735]; with_reducible exact H2_) | (have H2_ := (Option.bind_some _ _).symm.trans H; with_reducible exact H2_) | with_reducible exact H | (rw [hy735]; exact H) | exact H
     have Ny735 := Aside0.mk hy735
     clear hy735
     obtain rfl := Option.some.inj H
     go_enter Try.func73, Try.ntmps73
     go_wp2_with (first | ((with_reducible refine gate_callee (f := 100) rfl ?_); refine goesL_ (some 9) rfl rfl Try.func100 (by kernel_rfl) rfl #[.slice A0 l0.length c0] rfl (by (try simp only [List.map_toArray, List.map_cons, List.map_nil]); first | done | rfl | (simp only [List.length_drop, List.length_take]; rfl)) ?_; (with_reducible refine (slices_Clone_int_int.calls _ _ l0 t731 _ ?side1 ?side2 A4.out).mono ?_); (case side1 => repeat (first | exact HR0.out | (with_reducible refine Kd.C_alloc ?_ _) | (with_reducible refine Kd.C_drewN ?_ _) | (with_reducible refine Kd.C_drew ?_))); (case side2 => exact HC0.out); rintro e w11 ⟨v732, rfl, ho0, hb⟩; refine ⟨_, rfl, ?_⟩; have n0_ := Aside0.mk (Kd.R_lower ho0 (below_size (by repeat (first | (with_reducible first | exact HB.out | apply below_alloc | apply pw_below_drewN | apply below_drew1) | exact HB.out)))); have n1_ := Aside0.mk (below_step (by repeat (first | (with_reducible first | exact HB.out | apply below_alloc | apply pw_below_drewN | apply below_drew1) | exact HB.out)) hb); clear HB; have HO733 := n0_; have HB := n1_; clear n0_ n1_; (try clear hb); (try clear hb2); (try clear hk); (try clear hi); (try clear ho0); have p7 : 0 ≤ (a1 : Int) := of_decide_eq_true (by first | (with_reducible assumption) | assumption); have q7 : (a1 : Int) < ((t731.length : Int) : Int) := of_decide_eq_true (by first | (with_reducible assumption) | assumption); obtain ⟨go7, co7, eo7, gb7, gl7, cl7, HG7⟩ := Kd.R_form HO733.out (by omega); (first | cases eo7 | (injection eo7 with ea_ en_ ec_; (first | subst ea_ | (injection ea_ with ea_; subst ea_)); subst ec_; clear en_)); have GB7 := Aside0.mk gb7; have GG7 := Aside0.mk HG7; clear gb7 gl7 HG7; obtain ⟨hx7_0, hf7_0⟩ := Kd.R_celln 0 HO733.out (a1 : Int) p7 q7; replace p7 := eq_true p7; replace q7 := eq_true q7; obtain ⟨hy12_, hz12_⟩ := Kd.R_celln 0 HO733.out (a1 : Int) (of_decide_eq_true (by first | (with_reducible assumption) | assumption)) (of_decide_eq_true (by first | (with_reducible assumption) | assumption)); have HP12 := Kd.R_putg HO733.out (a1 : Int) a2) | ((with_reducible refine gate_store (t := 3) (p := 16) rfl ?_); refine store_event (t := 3) (p := 16) (v := ?vo_w13) (w1 := (w11.setCell ⟨go7, (a1 : Int).toNat, none⟩ (.int .i64 a2))) ?hg ?ho ?hn ?hr ?_; (case ho => rfl); (case hg => rfl); (case hn => rfl); (case hr => first | (go_simp; done) | (go_simp; rfl)); intro w13 hw; have hg : w11.grownBy w13 (some go7) := (by rw [hw]; exact HP12.2); have hp_ : Kd.R (Kd.int .i64) 3 w13 w.heap.size (fun _ => True) (.slice (some ⟨go7, 0, none⟩) t731.length co7) y734 := (by rw [hw, Ny734.out]; exact HP12.1); clear HP12; have n0_ := Aside0.mk (hp_); have n1_ := Aside0.mk ((by rw [hw]; exact below_set (HB.out) GB7.out : Below w.heap.size w w13)); clear HO733; clear HB; have HO733 := n0_; have HB := n1_; clear n0_ n1_; clear hg hw hp_; have p10 : 0 ≤ (a2 : Int) := of_decide_eq_true (by first | (with_reducible assumption) | assumption); have q10 : (a2 : Int) < ((t731.length : Int) : Int) := of_decide_eq_true (by first | (with_reducible assumption) | assumption); obtain ⟨hx10_0, hf10_0⟩ := Kd.R_celln 0 HO733.out (a2 : Int) p10 q10; replace p10 := eq_true p10; replace q10 := eq_true q10; obtain ⟨hy14_, hz14_⟩ := Kd.R_celln 0 HO733.out (a2 : Int) (of_decide_eq_true (by first | (with_reducible assumption) | assumption)) (of_decide_eq_true (by first | (with_reducible assumption) | assumption)); have HP14 := Kd.R_putg HO733.out (a2 : Int) a1) | ((with_reducible refine gate_store (t := 3) (p := 17) rfl ?_); refine store_event (t := 3) (p := 17) (v := ?vo_w15) (w1 := (w13.setCell ⟨go7, (a2 : Int).toNat, none⟩ (.int .i64 a1))) ?hg ?ho ?hn ?hr ?_; (case ho => rfl); (case hg => rfl); (case hn => rfl); (case hr => first | (go_simp; done) | (go_simp; rfl)); intro w15 hw; have hg : w13.grownBy w15 (some go7) := (by rw [hw]; exact HP14.2); have hp_ : Kd.R (Kd.int .i64) 3 w15 w.heap.size (fun _ => True) (.slice (some ⟨go7, 0, none⟩) t731.length co7) y735 := (by rw [hw, Ny735.out]; exact HP14.1); clear HP14; have n0_ := Aside0.mk (hp_); have n1_ := Aside0.mk ((by rw [hw]; exact below_set (HB.out) GB7.out : Below w.heap.size w w15)); clear HO733; clear HB; have HO733 := n0_; have HB := n1_; clear n0_ n1_; clear hg hw hp_))
     go_ret
     exact ⟨_, by first | rfl | (simp [errW_none, errW_some] <;> rfl) | (simp [*, errW_none, errW_some] <;> rfl), by (with_reducible repeat (first | apply Kd.R_alloc | apply Kd.R_drewN | apply Kd.R_drew)); exact HO733.out, by repeat (first | (with_reducible first | exact HB.out | apply below_alloc | apply pw_below_drewN | apply below_drew1) | exact HB.out)⟩
    ·rw [if_neg c9] at H
     exact absurd H (by simp)
   ·rw [if_neg c8] at H
    exact absurd H (by simp)
  ·rw [if_neg c6] at H
   exact absurd H (by simp)
 ·rw [if_neg c5] at H
  exact absurd H (by simp)

end Go.Proofs.Ythbkjaieenochaa.P

namespace Go.Proofs.Ythbkjaieenochaa.P
open Go.RowKit Go.Proofs.YthbkjaieenochaaW.PrintWords Go.Proofs.YthbkjaieenochaaW.PrintLast Go.Proofs.YthbkjaieenochaaW.PrintMore
attribute [local go_sem] max2_int min2_int max_two min_two max_three min_three max_four min_four   -- for this text's walks alone
set_option linter.unusedVariables false
set_option linter.unusedSimpArgs false

def slices_Index_int_int.l0 : Nat → List Int → Int → Int → Int → Option (Int)
 | 0, _, _, _, _ => none
 | k + 1, x0, x1, x7, x8 => if x8 < x7 then (if 0 ≤ x8 then (if x8 < (x0.length : Int) then (if x1 = (rd x0 x8) then (some x8) else (slices_Index_int_int.l0 k x0 x1 x7 (wrap64 (x8 + 1)))) else (none)) else (none)) else (some (-1))
def slices_Index_int_int.f (k : Nat) (l0 : List Int) (a1 : Int) : Option (Int) := slices_Index_int_int.l0 k l0 a1 (l0.length : Int) 0
set_option maxHeartbeats 8000000 in
set_option maxRecDepth 100000 in
theorem slices_Index_int_int.calls (k : Nat) (A0 : Option Addr) (c0 : Nat) (l0 : List Int) (a1 : Int) (r : Int) (w : World) (hr0 : Kd.C (Kd.int .i64) w A0 l0.length l0) (hc0 : l0.length ≤ c0) (h : slices_Index_int_int.f k l0 a1 = some r) :
  Calls Try.prog 72 #[.slice A0 l0.length c0, .int .i64 a1] w fun e w' => e = .returned (.int .i64 r) ∧ Drawn0 w w' := by
 have HR0 := Aside0.mk hr0
 have HC0 := Aside0.mk hc0
 clear hr0 hc0
 have H : (slices_Index_int_int.l0 k l0 a1 (l0.length : Int) 0) = some r := h
 clear h
 have H' := Aside0.mk H
 clear H
 go_enter Try.func72, Try.ntmps72
 go_wp2
 go_loopg [8] k (fun kq v8 w' => ∃ (x8_1 : Int), v8 = .int .i64 x8_1 ∧ Aside0 (slices_Index_int_int.l0 kq l0 a1 (l0.length : Int) x8_1 = some r) ∧ Aside0 (kq ≤ k) ∧ Drawn0 w w')
 case atStart => exact ⟨(0), (by first | rfl | (simp; done) | (simp [*]; done)), H', ⟨Nat.le_refl _⟩, by repeat (first | exact Drawn0.refl _ | apply Drawn0.step)⟩
 case round =>
  clear H'
  try clear p2
  obtain ⟨x8_1, rfl, HA, HK1, ⟨m1, rfl⟩⟩ := hrel
  cases gk with
  | zero => exact absurd HA.out (by simp [slices_Index_int_int.l0])
  | succ k1 =>
   have H := HA.out
   clear HA
   simp only [slices_Index_int_int.l0] at H
   by_cases c3 : x8_1 < (l0.length : Int)
   ·rw [if_pos c3] at H
    have c3b0 : decide (x8_1 < (l0.length : Int)) = true := decide_eq_true c3
    clear c3
    by_cases c4 : 0 ≤ x8_1
    ·rw [if_pos c4] at H
     have c4b0 : decide (0 ≤ x8_1) = true := decide_eq_true c4
     clear c4
     by_cases c5 : x8_1 < (l0.length : Int)
     ·rw [if_pos c5] at H
      have c5b0 : decide (x8_1 < (l0.length : Int)) = true := decide_eq_true c5
      clear c5
      by_cases c6 : a1 = (rd l0 x8_1)
      ·rw [if_pos c6] at H
       have c6b0 : (a1 == (rd l0 x8_1)) = true := beq_iff_eq.mpr c6
       have c6b1 : (a1 != (rd l0 x8_1)) = false := bne_eq_false_iff_eq.mpr c6
       clear c6
       obtain rfl := Option.some.inj H
       have p736 : 0 ≤ (x8_1 : Int) := of_decide_eq_true (by first | (with_reducible assumption) | assumption)
       have q736 : x8_1 < (l0.length : Int) := of_decide_eq_true (by first | (with_reducible assumption) | assumption)
       obtain ⟨ad736, e736, hx736_0⟩ := Kd.at_int HR0.out x8_1 p736 q736
       cases e736
       replace p736 := eq_true p736
       replace q736 := eq_true q736
       go_wp2
       go_ret
       exact ⟨by first | rfl | (simp; done) | (simp [*]; done), by repeat (first | exact Drawn0.refl _ | apply Drawn0.step)⟩
      ·rw [if_neg c6] at H
       have c6b0 : (a1 == (rd l0 x8_1)) = false := beq_eq_false_iff_ne.mpr c6
       have c6b1 : (a1 != (rd l0 x8_1)) = true := bne_iff_ne.mpr c6
       have H' := Aside0.mk H
       clear H
       have p736 : 0 ≤ (x8_1 : Int) := of_decide_eq_true (by first | (with_reducible assumption) | assumption)
       have q736 : x8_1 < (l0.length : Int) := of_decide_eq_true (by first | (with_reducible assumption) | assumption)
       obtain ⟨ad736, e736, hx736_0⟩ := Kd.at_int HR0.out x8_1 p736 q736
       cases e736
       replace p736 := eq_true p736
       replace q736 := eq_true q736
       go_wp2
       go_roundg k1
       case measure => have := HK1.out; omega
       case rel => exact ⟨(wrap64 (x8_1 + 1)), (by first | rfl | (simp; done) | (simp [*]; done)), H', ⟨by have := HK1.out; omega⟩, by repeat (first | exact Drawn0.refl _ | apply Drawn0.step)⟩
     ·rw [if_neg c5] at H
      exact absurd H (by simp)
    ·rw [if_neg c4] at H
     exact absurd H (by simp)
   ·rw [if_neg c3] at H
    have c3b0 : decide (x8_1 < (l0.length : Int)) = false := decide_eq_false c3
    clear c3
    obtain rfl := Option.some.inj H
    go_wp2
    go_ret
    exact ⟨by first | rfl | (simp; done) | (simp [*]; done), by repeat (first | exact Drawn0.refl _ | apply Drawn0.step)⟩

end Go.Proofs.Ythbkjaieenochaa.P
