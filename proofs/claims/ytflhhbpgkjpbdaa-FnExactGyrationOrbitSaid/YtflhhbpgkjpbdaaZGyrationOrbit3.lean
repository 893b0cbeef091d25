/- The program's orbit, its tables apart from each other. -/
import Derived.Test.YtflhhbpgkjpbdaaZGyrationOrbit5
import Derived.Test.YtflhhbpgkjpbdaaZGyrationOrbit0
import Derived.Test.YtflhhbpgkjpbdaaZGyrationOrbit2
import Derived.Test.YtflhhbpgkjpbdaaZGyrationOrbit1
-- Written by a program of this session (wip/mkprint.py): out of the translation; Lean checks it.
namespace Go.Proofs.Ytflhhbpgkjpbdaa.P
open Go.RowKit Go.Proofs.YtflhhbpgkjpbdaaW.PrintWords Go.Proofs.YtflhhbpgkjpbdaaW.PrintLast Go.Proofs.YtflhhbpgkjpbdaaW.PrintMore
attribute [local go_sem] max2_int min2_int max_two min_two max_three min_three max_four min_four   -- for this text's walks alone
set_option linter.unusedVariables false
set_option linter.unusedSimpArgs false

/-! ### impl_copyTable: function 83 -/
def impl_copyTable.l0 : Nat → List (List Int) → List (List Int) → Int → Int → Option ((List (List Int)))
 | 0, _, _, _, _ => none
 | k + 1, x3, x7, x8, x9 => if x9 < x8 then (if 0 ≤ x9 then (if x9 < (x7.length : Int) then ((slices_Clone_int_int.f (rd_L1 x7 x9)).bind fun t387 => (if x3.length < 5864062014805 then (impl_copyTable.l0 k (x3 ++ [t387]) x7 x8 (wrap64 (x9 + 1))) else (none))) else (none)) else (none)) else (some x3)
def impl_copyTable.f (k : Nat) (l0 : List (List Int)) : Option ((List (List Int))) := impl_copyTable.l0 k (([] : List (List Int))) l0 (l0.length : Int) 0
theorem impl_copyTable.mono_l : ∀ k, (∀ y0 y1 y2 y3, LeO (impl_copyTable.l0 k y0 y1 y2 y3) (impl_copyTable.l0 (k + 1) y0 y1 y2 y3))
 | 0 => fun _ _ _ _ r h => by simp [impl_copyTable.l0] at h
 | k + 1 => by
  have ih0 := impl_copyTable.mono_l k
  ·intro y0 y1 y2 y3
   unfold impl_copyTable.l0
   repeat' first
   | (with_reducible exact ih0 _ _ _ _)
   | (with_reducible exact LeO.refl _)
   | (with_reducible exact LeO.none _)
   | (with_reducible refine LeO.ite ?_ ?_)
   | (with_reducible refine LeO.bind ?_ (fun _ => ?_))
   | exact ih0 _ _ _ _
   | exact LeO.none _
   | refine LeO.ite ?_ ?_
   | refine LeO.bind ?_ (fun _ => ?_)
theorem impl_copyTable.mono : ∀ a0 k, LeO (impl_copyTable.f k a0) (impl_copyTable.f (k + 1) a0) := by
 intro a0 k
 have ih0 := impl_copyTable.mono_l k
 unfold impl_copyTable.f
 repeat' first
   | (with_reducible exact ih0 _ _ _ _)
   | (with_reducible exact LeO.refl _)
   | (with_reducible exact LeO.none _)
   | (with_reducible refine LeO.ite ?_ ?_)
   | (with_reducible refine LeO.bind ?_ (fun _ => ?_))
   | exact ih0 _ _ _ _
   | exact LeO.none _
   | refine LeO.ite ?_ ?_
   | refine LeO.bind ?_ (fun _ => ?_)
set_option maxHeartbeats 8000000 in
set_option maxRecDepth 100000 in
theorem impl_copyTable.calls (k : Nat) (A0 : Option Addr) (c0 : Nat) (l0 : List (List Int)) (r : List (List Int)) (w : World) (hr0 : Kd.C (Kd.slice 3 (Kd.int .i64)) w A0 l0.length l0) (hc0 : l0.length ≤ c0) (h : impl_copyTable.f k l0 = some r) :
  Calls Try.prog 83 #[.slice A0 l0.length c0] w fun e w' => ∃ v0_ : Value, e = .returned (v0_) ∧ Kd.S (Kd.slice 3 (Kd.int .i64)) 43 w' w.heap.size (fun _ => True) v0_ r ∧ Below w.heap.size w w' := by
 have HR0 := Aside0.mk hr0
 have HC0 := Aside0.mk hc0
 clear hr0 hc0
 have HB := Aside0.mk (Below.refl w.heap.size w)
 have H : (impl_copyTable.l0 k (([] : List (List Int))) l0 (l0.length : Int) 0) = some r := h
 clear h
 obtain ⟨y383, hy383⟩ : ∃ y_ : List (List Int), y_ = (([] : List (List Int))) := ⟨_, rfl⟩
 replace H : (impl_copyTable.l0 k y383 l0 (l0.length : Int) 0) = some r := by first | (rw [hy383]; with_reducible exact H) | (have H2_ := (Option.bind_some _ _).symm.trans H; rw [hy383]; with_reducible exact H2_) | (have H2_ := (Option.bind_some _ _).symm.trans H; with_reducible exact H2_) | with_reducible exact H | (rw [hy383]; exact H) | exact H
 have Ny383 := Aside0.mk hy383
 clear hy383
 have H' := Aside0.mk H
 clear H
 go_enter Try.func83, Try.ntmps83
 go_wp2_with (first | ((with_reducible refine gate_dst (N := 6) rfl ?_); refine Kd.S_lit (Kd.slice 3 (Kd.int .i64)) _ 43 ?hg (N := 6) ?hd (xs := ([] : List (List Int))) (inner := []) (ok := fun _ => True) (okp := fun _ => True) ?hr ?hp (fun _ hk => hk) trivial (Below.refl _ _) (Nat.le_refl _) (by simp) ?_; (case hd => rfl); (case hg => rfl); (case hr => first | (go_simp; done) | (go_simp; rfl)); (case hp => exact (Reps.none _ _)); intro v384 w2 ho3 hb hg_ hnew_; clear hg_ hnew_; (first | rw [← Ny383.out] at ho3 | (simp only [Int.reduceToNat] at ho3; rw [← Ny383.out] at ho3)); have n0_ := Aside0.mk (Kd.S_lower ho3 (below_size (by repeat (first | (with_reducible first | exact HB.out | apply below_alloc | apply pw_below_drewN | apply below_drew1) | exact HB.out)))); have n1_ := Aside0.mk (below_step (by repeat (first | (with_reducible first | exact HB.out | apply below_alloc | apply pw_below_drewN | apply below_drew1) | exact HB.out)) hb); clear HB; have HO385 := n0_; have HB := n1_; clear n0_ n1_; clear hb ho3))
 go_loopg [3, 9] k (fun kq v3 v9 w' => ∃ (x3_1 : List (List Int)) (x9_1 : Int), v9 = .int .i64 x9_1 ∧ Aside0 (impl_copyTable.l0 kq x3_1 l0 (l0.length : Int) x9_1 = some r) ∧ Aside0 (kq ≤ k) ∧ Aside0 (Kd.S (Kd.slice 3 (Kd.int .i64)) 43 w' w.heap.size (fun _ => True) v3 x3_1) ∧ Aside0 (Below w.heap.size w w'))
 case atStart => exact ⟨(y383), (0), (by first | rfl | (simp; done) | (simp [*]; done)), H', ⟨Nat.le_refl _⟩, ⟨by (with_reducible repeat (first | apply Kd.S_alloc | apply Kd.S_drewN | apply Kd.S_drew)); exact HO385.out⟩, ⟨by repeat (first | (with_reducible first | exact HB.out | apply below_alloc | apply pw_below_drewN | apply below_drew1) | exact HB.out)⟩⟩
 case round =>
  clear H'
  try clear p2
  obtain ⟨x3_1, x9_1, rfl, HA, HK1, HO_3, HB⟩ := hrel
  cases gk with
  | zero => exact absurd HA.out (by simp [impl_copyTable.l0])
  | succ k1 =>
   have H := HA.out
   clear HA
   simp only [impl_copyTable.l0] at H
   by_cases c4 : x9_1 < (l0.length : Int)
   ·rw [if_pos c4] at H
    have c4b0 : decide (x9_1 < (l0.length : Int)) = true := decide_eq_true c4
    clear c4
    by_cases c5 : 0 ≤ x9_1
    ·rw [if_pos c5] at H
     have c5b0 : decide (0 ≤ x9_1) = true := decide_eq_true c5
     clear c5
     by_cases c6 : x9_1 < (l0.length : Int)
     ·rw [if_pos c6] at H
      have c6b0 : decide (x9_1 < (l0.length : Int)) = true := decide_eq_true c6
      clear c6
      replace H := Option.bind_eq_some_iff.mp H
      obtain ⟨t387, A70, H⟩ := H
      replace H : (if x3_1.length < 5864062014805 then (impl_copyTable.l0 k1 (x3_1 ++ [t387]) l0 (l0.length : Int) (wrap64 (x9_1 + 1))) else (none)) = some r := H
      have A7 := Aside0.mk A70
      clear A70
      by_cases c8 : x3_1.length < 5864062014805
      ·rw [if_pos c8] at H
       have LMc8 := Aside0.mk c8
       clear c8
       obtain ⟨y390, hy390⟩ : ∃ y_ : List (List Int), y_ = (x3_1 ++ [t387]) := ⟨_, rfl⟩
       replace H : (impl_copyTable.l0 k1 y390 l0 (l0.length : Int) (wrap64 (x9_1 + 1))) = some r := by first | (rw [hy390]; with_reducible exact H) | (have H2_ := (Option.bind_some _ _).symm.trans H; rw [hy390]; with_reducible exact H2_) | (have H2_ := (Option.bind_some _ _).symm.trans H; with_reducible exact H2_) | with_reducible exact H | (rw [hy390]; exact H) | exact H
       have Ny390 := Aside0.mk hy390
       clear hy390
       have H' := Aside0.mk H
       clear H
       have p386 : 0 ≤ (x9_1 : Int) := of_decide_eq_true (by assumption)
       have q386 : x9_1 < (l0.length : Int) := of_decide_eq_true (by assumption)
       obtain ⟨ad386, A386_0, c386_0, e386, hx386_0, hl386_0, hi386_0⟩ := at_L1 HR0.out x9_1 p386 q386
       cases e386
       (try replace hx386_0 := (HB.out.cell (World.block_lt_of_cell? w _ hx386_0)).trans hx386_0)
       have HR386_0 := Aside0.mk hi386_0
       have HC386_0 := Aside0.mk hl386_0
       clear hi386_0 hl386_0
       replace p386 := eq_true p386
       replace q386 := eq_true q386
       go_wp2_with (first | ((with_reducible refine gate_callee (f := 120) rfl ?_); refine goesL_ (some 15) rfl rfl Try.func120 (by kernel_rfl) rfl #[.slice A386_0 (rd_L1 l0 x9_1).length c386_0] rfl (by (try simp only [List.map_toArray, List.map_cons, List.map_nil]); first | done | rfl | (simp only [List.length_drop, List.length_take]; rfl)) ?_; (with_reducible refine (slices_Clone_int_int.calls _ _ (rd_L1 l0 x9_1) t387 _ ?side1 ?side2 A7.out).mono ?_); (case side1 => repeat (first | exact (Kd.C_below HR386_0.out HB.out) | (with_reducible refine Kd.C_alloc ?_ _) | (with_reducible refine Kd.C_drewN ?_ _) | (with_reducible refine Kd.C_drew ?_))); (case side2 => exact HC386_0.out); rintro e w9 ⟨v388, rfl, ho0, hb⟩; refine ⟨_, rfl, ?_⟩; have n0_ := Aside0.mk (Kd.S_elder' (by (with_reducible repeat (first | apply Kd.S_alloc | apply Kd.S_drewN | apply Kd.S_drew)); exact HO_3.out) (Kd.R_base ho0) hb); have n1_ := Aside0.mk (Kd.R_lower ho0 (below_size (by repeat (first | (with_reducible first | exact HB.out | apply below_alloc | apply pw_below_drewN | apply below_drew1) | exact HB.out)))); have n2_ := Aside0.mk (below_step (by repeat (first | (with_reducible first | exact HB.out | apply below_alloc | apply pw_below_drewN | apply below_drew1) | exact HB.out)) hb); clear HO_3; clear HB; have HO_3 := n0_; have HO389 := n1_; have HB := n2_; clear n0_ n1_ n2_; (try clear hb); (try clear hb2); (try clear hk); (try clear hi); (try clear ho0); obtain ⟨Ao11, co11, eo11⟩ := Kd.R_slice HO389.out; subst eo11) | ((with_reducible refine gate_builtin (b := .append) (xs := #[.tmp 13, .tmp 16]) rfl ?_); at_builtin; refine Kd.S_append (Kd.slice 3 (Kd.int .i64)) (w0 := w) w.heap.size rfl (.tmp 13) (.tmp 16) 22 43 (.slice none 0 0) 24 rfl Try.underlying22 info43 rfl (by decide) (by omega) u3 x3_1 t387 [.slice Ao11 t387.length co11] (fun _ => True) (fun k_ => some k_ = (.slice Ao11 t387.length co11 : Value).ownBlock) rfl rfl ?aP (fun k_ hk_ => ((Kd.R_mono (ok' := fun k_ => ((fun _ => True)) k_ ∧ some k_ ≠ (u3 : Value).ownBlock) (Kd.R_apart' (HO389.out) (Kd.S_typed HO_3.out) (by decide)) (fun k_ hk => ⟨trivial, hk.2⟩))).1 k_ hk_.symm) ?aF ?aO ?aB ?aS ?aL ?_; (case aP => exact Kd.M_row (Kd.R_mono (Kd.R_tight rfl (Kd.R_mono (ok' := fun k_ => ((fun _ => True)) k_ ∧ some k_ ≠ (u3 : Value).ownBlock) (Kd.R_apart' (HO389.out) (Kd.S_typed HO_3.out) (by decide)) (fun k_ hk => ⟨trivial, hk.2⟩))) (fun _ h_ => h_))); (case aB => exact (by repeat (first | (with_reducible first | exact HB.out | apply below_alloc | apply pw_below_drewN | apply below_drew1) | exact HB.out))); (case aF => exact (fun _ _ => trivial)); (case aO => exact (by (with_reducible repeat (first | apply Kd.S_alloc | apply Kd.S_drewN | apply Kd.S_drew)); exact Kd.S_mono HO_3.out (fun k_ hk => ⟨trivial, fun e_ => hk.2 e_⟩))); (case aS => exact (below_size (by repeat (first | (with_reducible first | exact HB.out | apply below_alloc | apply pw_below_drewN | apply below_drew1) | exact HB.out)))); (case aL => have := LMc8.out; omega); intro v391 w10 ho hb hg hat; rw [← Ny390.out] at ho; have n0_ := Aside0.mk (hb); have n1_ := Aside0.mk (ho); clear HB; clear HO_3; clear HO389; have HB := n0_; have HO392 := n1_; clear n0_ n1_; clear ho hb hg hat))
       go_roundg k1
       case measure => have := HK1.out; omega
       case rel => exact ⟨(y390), (wrap64 (x9_1 + 1)), (by first | rfl | (simp; done) | (simp [*]; done)), H', ⟨by have := HK1.out; omega⟩, ⟨by (with_reducible repeat (first | apply Kd.S_alloc | apply Kd.S_drewN | apply Kd.S_drew)); exact HO392.out⟩, ⟨by repeat (first | (with_reducible first | exact HB.out | apply below_alloc | apply pw_below_drewN | apply below_drew1) | exact HB.out)⟩⟩
      ·rw [if_neg c8] at H
       exact absurd H (by simp)
     ·rw [if_neg c6] at H
      exact absurd H (by simp)
    ·rw [if_neg c5] at H
     exact absurd H (by simp)
   ·rw [if_neg c4] at H
    have c4b0 : decide (x9_1 < (l0.length : Int)) = false := decide_eq_false c4
    clear c4
    obtain rfl := Option.some.inj H
    go_wp2
    go_ret
    exact ⟨_, by first | rfl | (simp [errW_none, errW_some] <;> rfl) | (simp [*, errW_none, errW_some] <;> rfl), by (with_reducible repeat (first | apply Kd.S_alloc | apply Kd.S_drewN | apply Kd.S_drew)); exact HO_3.out, by repeat (first | (with_reducible first | exact HB.out | apply below_alloc | apply pw_below_drewN | apply below_drew1) | exact HB.out)⟩

end Go.Proofs.Ytflhhbpgkjpbdaa.P

/- The program's orbit, its tables apart from each other. -/
namespace Go.Proofs.Ytflhhbpgkjpbdaa.L
open Go.RowKit Go.Proofs.Ytflhhbpgkjpbdaa Go.Proofs.Ytflhhbpgkjpbdaa.P Go.Proofs.YtflhhbpgkjpbdaaW.PrintWords Go.Proofs.YtflhhbpgkjpbdaaW.PrintLast Go.Proofs.YtflhhbpgkjpbdaaW.PrintMore
set_option linter.unusedVariables false
set_option linter.unusedSimpArgs false

/-- A literal of one element. -/
theorem S_one {α : Type} {d : Kd α} {e : Nat} {W : World} {B g : Nat} {ok okp : Nat → Prop} {p : α} {v : Value} (hsz : d.sz = 1) (h : W.heap[g]? = some (.cells #[v] e (0, 0))) (hB : B ≤ g) (hok : ok g) (hp : d.M W B okp p [v]) (hokp : ∀ k, okp k → ok k ∧ k ≠ g) : Kd.S d e W B ok (.slice (some ⟨g, 0, none⟩) 1 1) [p] := by
 refine ⟨fun _ => 0, fun k hk => ?_, [v], ⟨by show 1 = 1 * d.sz; omega, .inr ⟨g, 1, #[v], rfl, hB, h, Nat.le_refl _, by unfold maxLen; omega, by show 1 = 1 * d.sz; omega, by show List.take (1 * d.sz) [v] = [v]; rw [hsz]; rfl⟩⟩, ⟨by show 1 = 1 * d.sz; omega, fun j q hj => ?_⟩⟩
 ·have : g = k := by simpa [Value.ownBlock] using hk
  exact this ▸ hok
 ·rcases j with _ | j
  ·have hq : q = (p, 0) := by simpa using hj.symm
   subst hq
   show d.M W B _ p ((List.drop (0 * d.sz) [v]).take d.sz)
   rw [Nat.zero_mul, hsz]
   exact d.M_mono (fun k hk => ⟨⟨(hokp k hk).1, fun e => (hokp k hk).2 (by simpa [Value.ownBlock] using e)⟩, rfl⟩) hp
  ·simp at hj
theorem slice3 {α : Type} {d : Kd α} {e : Nat} {W : World} {B : Nat} {ok : Nat → Prop} {v : Value} {xs : List α} (h : Kd.S d e W B ok v xs) : ∃ A n c, v = .slice A n c := by
 obtain ⟨A, c, rfl⟩ := Kd.R_slice (Kd.S_R h)
 exact ⟨A, _, c, rfl⟩
/-- The orbit, by rounds. -/
def orbP.l0 : Nat → List (List Int) → List (List (List Int)) → List (List Int) → Option ((List (List (List Int))) × Bool)
 | 0, _, _, _ => none
 | k + 1, x0, x4, x5 => (impl_compareTables.f x5 x0).bind fun c => (if c = 0 then (some (x4, true)) else (if (x4.length : Int) = 1000 then (some ([], false)) else (if x4.length < 5864062014805 then ((impl_gyrated.f x5).bind fun y => (orbP.l0 k x0 (x4 ++ [x5]) y)) else (none))))
def orbP.f (k : Nat) (l0 : List (List Int)) : Option ((List (List (List Int))) × Bool) := (impl_copyTable.f k l0).bind fun t => ((impl_gyrated.f l0).bind fun y => (orbP.l0 k l0 [t] y))
def gyoP.f (k : Nat) (l0 : List (List Int)) : Option ((List (List (List Int))) × Bool) := (impl_IsSignMatrix.f l0).bind fun t => (if t = true then ((orbP.f k l0).bind fun b => (some (b.1, b.2))) else (some ([], false)))
theorem info_tabs : (Try.prog.info? 22).map (fun i => (i.zero, i.size, i.bytes)) = some (some (.slice none 0 0), 1, 24) := by kernel_rfl
set_option maxHeartbeats 4000000 in
set_option maxRecDepth 100000 in
theorem impl_orbit.callsS (k : Nat) (A0 : Option Addr) (c0 : Nat) (l0 : List (List Int)) (r1 : List (List (List Int))) (r2 : Bool) (w : World) (hr0 : Kd.C (Kd.slice 3 (Kd.int .i64)) w A0 l0.length l0) (hc0 : l0.length ≤ c0) (h : orbP.f k l0 = some (r1, r2)) :
  Calls Try.prog 85 #[.slice A0 l0.length c0] w (RetTM w r1 r2) := by
 unfold orbP.f at h
 obtain ⟨T, hT, h⟩ := Option.bind_eq_some_iff.1 h
 obtain ⟨x, hx, h⟩ := Option.bind_eq_some_iff.1 h
 have HT := Aside0.mk hT
 have HX := Aside0.mk hx
 have HM := Aside0.mk h
 have HR := Aside0.mk hr0
 have HC := Aside0.mk hc0
 clear hT hx h hr0 hc0
 go_enter Try.func85, Try.ntmps85
 go_wp2_with (first
  | (go_at_call 83; (with_reducible refine (impl_copyTable.calls k _ _ l0 T _ HR.out HC.out HT.out).mono ?_); rintro e w1 ⟨v7, rfl, hS, hb⟩; obtain ⟨A7, n7, c7, rfl⟩ := slice3 hS; have HS7 := Aside0.mk (Kd.S_mono (ok' := fun k => k < w1.heap.size) (Kd.S_bound hS) (fun k hk => hk.2.2.1)); have HB := Aside0.mk hb; clear hS hb)
  | (go_at_call 78; have HB2 := Aside0.mk (below_alloc HB.out (.cells #[.slice A7 n7 c7] 22)); (with_reducible refine (impl_gyrated.calls _ _ l0 x _ (Kd.C_below HR.out HB2.out) HC.out HX.out).mono ?_); rintro e w2 ⟨v5, rfl, hS, hb⟩; obtain ⟨A5, c5, rfl⟩ := Kd.R_slice (Kd.S_R hS); have HSA := Aside0.mk (Kd.S_lower (Kd.S_mono (ok' := fun k => (w1.alloc (.cells #[.slice A7 n7 c7] 22)).heap.size ≤ k) (Kd.S_bound hS) (fun k hk => hk.2.1)) HB2.out.size); have HBA := Aside0.mk (below_step HB2.out hb); have HSO := Aside0.mk (Kd.S_below (S_one (d := tabK) (B := w.heap.size) (ok := fun k => k < (w1.alloc (.cells #[.slice A7 n7 c7] 22)).heap.size) (okp := fun k => k < w1.heap.size) (p := T) rfl (blk_new w1 (.cells #[.slice A7 n7 c7] 22)) HB.out.size (by simp) ⟨_, rfl, Kd.S_alloc HS7.out _⟩ (fun k hk => ⟨by simp; omega, by omega⟩)) hb); have HSZ := Aside0.mk hb.size; have HNB := Aside0.mk HB2.out.size; clear hS hb HS7))
 go_loopg [4, 5] k (fun kq v4 v5 wr => ∃ (acc : List (List (List Int))) (x : List (List Int)) (N1 : Nat) (A5 : Option Addr) (c5 : Nat), v5 = .slice A5 x.length c5 ∧ Aside0 (orbP.l0 kq l0 acc x = some (r1, r2)) ∧ Aside0 (w.heap.size ≤ N1 ∧ N1 ≤ wr.heap.size) ∧ Aside0 (Kd.S tabK 22 wr w.heap.size (fun k => k < N1) v4 acc) ∧ Aside0 (Kd.S (Kd.slice 3 (Kd.int .i64)) 43 wr w.heap.size (fun k => N1 ≤ k) (.slice A5 x.length c5) x) ∧ Aside0 (Below w.heap.size w wr))
 case atStart => exact ⟨_, x, _, A5, c5, rfl, HM, ⟨HNB.out, HSZ.out⟩, HSO, HSA, HBA⟩
 case round =>
  clear HM HSO HSA HBA HSZ HNB
  obtain ⟨acc, x, N1, A5, c5, rfl, HM, HN, HSO, HSX, HB⟩ := hrel
  cases gk with
  | zero => exact absurd HM.out (by simp [orbP.l0])
  | succ k3 =>
  have H := HM.out
  rw [orbP.l0] at H
  obtain ⟨cm, hcm, H⟩ := Option.bind_eq_some_iff.1 H
  have HCM := Aside0.mk hcm
  have HCX := Aside0.mk (Kd.R_reads' (Kd.S_R HSX.out)).2
  obtain ⟨A4, n4, c4, rfl⟩ := slice3 HSO.out
  have hn4 := (Kd.R_reads' (Kd.S_R HSO.out)).1
  obtain rfl : n4 = acc.length := hn4
  clear hcm HM
  by_cases hz : cm = 0
  ·rw [if_pos hz] at H
   obtain ⟨rfl, rfl⟩ := Prod.mk.inj (Option.some.inj H)
   have hzd : (cm != 0) = false := by simp [hz]
   clear H hz
   go_wp2_with (go_at_call 88; (with_reducible refine (impl_compareTables.calls _ _ x _ _ l0 cm _ HCX.out.2 HCX.out.1 (Kd.C_below HR.out HB.out) HC.out HCM.out).mono ?_); rintro e w3 ⟨rfl, hb⟩; have HS3 := Aside0.mk (Kd.S_below HSO.out hb); have HB3 := Aside0.mk (below_step HB.out hb); clear hb)
   go_ret2
   exact ⟨_, rfl, Kd.S_mono HS3.out (fun _ _ => trivial), HB3.out⟩
  ·rw [if_neg hz] at H
   have hzd : (cm != 0) = true := by simp [hz]
   by_cases hl : (acc.length : Int) = 1000
   ·rw [if_pos hl] at H
    obtain ⟨rfl, rfl⟩ := Prod.mk.inj (Option.some.inj H)
    have hld : ((acc.length : Int) == 1000) = true := by simp [hl]
    clear H hz hl
    go_wp2_with (go_at_call 88; (with_reducible refine (impl_compareTables.calls _ _ x _ _ l0 cm _ HCX.out.2 HCX.out.1 (Kd.C_below HR.out HB.out) HC.out HCM.out).mono ?_); rintro e w3 ⟨rfl, hb⟩; have HB3 := Aside0.mk (below_step HB.out hb); clear hb)
    go_ret2
    exact ⟨_, rfl, Kd.S_nil _ _ _ _ _, HB3.out⟩
   ·rw [if_neg hl] at H
    have hld : ((acc.length : Int) == 1000) = false := by simp [hl]
    by_cases hm : acc.length < 5864062014805
    ·rw [if_pos hm] at H
     obtain ⟨y, hy, H⟩ := Option.bind_eq_some_iff.1 H
     have HY := Aside0.mk hy
     have HH := Aside0.mk H
     have HLL := Aside0.mk (show (acc.length + 1) * 24 ≤ 140737488355328 by omega)
     clear H hz hl hy hm
     go_wp2_with (first
      | (go_at_call 88; (with_reducible refine (impl_compareTables.calls _ _ x _ _ l0 cm _ HCX.out.2 HCX.out.1 (Kd.C_below HR.out HB.out) HC.out HCM.out).mono ?_); rintro e w3 ⟨rfl, hb⟩; have HS3 := Aside0.mk (Kd.S_below HSO.out hb); have HX3 := Aside0.mk (Kd.S_below HSX.out hb); have HB3 := Aside0.mk (below_step HB.out hb); have HN3 := Aside0.mk (Nat.le_trans HN.out.2 hb.size); clear hb)
      | ((with_reducible refine gate_builtin (b := .append) (xs := #[.tmp 20, .tmp 22]) rfl ?_); at_builtin; refine Kd.S_append tabK (w0 := w) w.heap.size rfl (.tmp 20) (.tmp 22) 34 22 (.slice none 0 0) 24 rfl Try.underlying34 info_tabs rfl (by decide) (by omega) (.slice A4 acc.length c4) acc x [.slice A5 x.length c5] (fun _ => True) (fun k => N1 ≤ k) rfl rfl ⟨_, rfl, HX3.out⟩ ?aP (fun _ _ => trivial) ?aO HB3.out (Nat.le_trans HN.out.1 HN3.out) HLL.out ?_; (case aP => exact fun k hk => ⟨trivial, fun e => by have := (Kd.S_R HS3.out).1 k e.symm; omega⟩); (case aO => exact Kd.S_mono HS3.out (fun k hk => ⟨trivial, by omega⟩)); intro v6 w4 ho hb hg hat; obtain ⟨A6, n6, c6, rfl⟩ := slice3 ho; have HO6 := Aside0.mk (Kd.S_mono (ok' := fun k => k < w4.heap.size) (Kd.S_bound ho) (fun k hk => hk.2.2.1)); have HF6 := Aside0.mk (Kd.F_grown (Kd.S_F HX3.out) hg (fun k hk e => by have := (Kd.S_R HS3.out).1 k e.symm; omega)); have HB4 := Aside0.mk hb; clear ho hb hg hat)
      | (go_at_call 78; (with_reducible refine (impl_gyrated.calls _ _ x y _ (Kd.F_now HF6.out) HCX.out.1 HY.out).mono ?_); rintro e w5 ⟨v7, rfl, hS, hb⟩; obtain ⟨A7, c7, rfl⟩ := Kd.R_slice (Kd.S_R hS); have HSA := Aside0.mk (Kd.S_lower (Kd.S_mono (ok' := fun k => w4.heap.size ≤ k) (Kd.S_bound hS) (fun k hk => hk.2.1)) HB4.out.size); have HBA := Aside0.mk (below_step HB4.out hb); have HSO5 := Aside0.mk (Kd.S_below HO6.out hb); have HSZ := Aside0.mk hb.size; clear hS hb))
     go_roundg k3
     case measure => omega
     case rel => exact ⟨_, y, _, A7, c7, rfl, HH, ⟨HB4.out.size, HSZ.out⟩, HSO5, HSA, HBA⟩
    ·rw [if_neg hm] at H
     cases H
theorem impl_GyrationOrbit.callsS (k : Nat) (A0 : Option Addr) (c0 : Nat) (l0 : List (List Int)) (r1 : List (List (List Int))) (r2 : Bool) (w : World) (hr0 : Kd.C (Kd.slice 3 (Kd.int .i64)) w A0 l0.length l0) (hc0 : l0.length ≤ c0) (h : gyoP.f k l0 = some (r1, r2)) :
  Calls Try.prog 38 #[.slice A0 l0.length c0] w (RetTM w r1 r2) := by
 unfold gyoP.f at h
 obtain ⟨t, ht, h⟩ := Option.bind_eq_some_iff.1 h
 unfold impl_IsSignMatrix.f at ht
 obtain rfl := Option.some.inj ht
 have hsg := impl_IsSignMatrix.calls' A0 c0 l0 w hr0 hc0
 clear ht
 cases hs : isSign l0 with
 | false =>
  rw [hs] at hsg h
  rw [if_neg (by simp)] at h
  obtain ⟨rfl, rfl⟩ := Prod.mk.inj (Option.some.inj h)
  clear hr0 hc0 hs h
  go_enter Try.func38, Try.ntmps38
  go_wp2_with (go_at_call 59; refine hsg.mono ?_; rintro e w1 ⟨rfl, hb⟩)
  go_ret2
  exact ⟨_, rfl, Kd.S_nil _ _ _ _ _, hb⟩
 | true =>
  rw [hs] at hsg h
  rw [if_pos rfl] at h
  obtain ⟨⟨q1, q2⟩, hq, h⟩ := Option.bind_eq_some_iff.1 h
  obtain ⟨rfl, rfl⟩ := Prod.mk.inj (Option.some.inj h)
  have HO := Aside0.mk (fun W (hb : Below w.heap.size w W) => impl_orbit.callsS k A0 c0 l0 q1 q2 W (Kd.C_below hr0 hb) hc0 hq)
  clear hr0 hc0 hs h hq
  go_enter Try.func38, Try.ntmps38
  go_wp2_with (first | (go_at_call 59; refine hsg.mono ?_; rintro e w1 ⟨rfl, hb⟩; have HB := Aside0.mk hb; clear hb) | (go_at_call 85; refine (HO.out _ HB.out).mono ?_; rintro e w2 ⟨v, rfl, hS, hb⟩; have HS := Aside0.mk (Kd.S_lower hS HB.out.size); have HB2 := Aside0.mk (below_step HB.out hb); clear hS hb))
  go_ret2
  exact ⟨_, rfl, HS.out, HB2.out⟩
end Go.Proofs.Ytflhhbpgkjpbdaa.L
