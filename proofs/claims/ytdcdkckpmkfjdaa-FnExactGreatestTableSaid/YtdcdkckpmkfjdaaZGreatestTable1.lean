/- The program's GreatestTable answers as the reference's GreatestTable, for every number; what comes back is the call's own (the walk of the law FnExactGreatestTable; no condition). -/
import Derived.Test.YtdcdkckpmkfjdaaLA
import Derived.Test.YtdcdkckpmkfjdaaPx21
import Derived.Test.YtdcdkckpmkfjdaaPx19
import Derived.Test.YtdcdkckpmkfjdaaPx0
import Derived.Test.YtdcdkckpmkfjdaaPx85
import Derived.Test.YtdcdkckpmkfjdaaPx99
import Derived.Test.YtdcdkckpmkfjdaaPx100
import Derived.Test.YtdcdkckpmkfjdaaUA
import Derived.Test.YtdcdkckpmkfjdaaZGreatestTable0
namespace Go.Proofs.Ytdcdkckpmkfjdaa.L
open Go.RowKit Go.Proofs.Ytdcdkckpmkfjdaa Go.Proofs.Ytdcdkckpmkfjdaa.P Go.Proofs.YtdcdkckpmkfjdaaW.PrintWords Go.Proofs.YtdcdkckpmkfjdaaW.PrintLast Go.Proofs.YtdcdkckpmkfjdaaW.PrintMore
set_option linter.unusedVariables false

/-- A row that lies in the blocks from a to b alone. -/
structure OwnR (B a b : Nat) (w : World) (v : Value) (T : List Int) : Prop where
  s : Kd.R (Kd.int .i64) 3 w B (Itv a b) v T
  lo : B ≤ a
  hi : b ≤ w.heap.size
theorem OwnR.new {B : Nat} {w w' : World} {v : Value} {T : List Int} (h : Kd.R (Kd.int .i64) 3 w' w.heap.size (fun _ => True) v T) (hB : B ≤ w.heap.size) : OwnR B w.heap.size w'.heap.size w' v T :=
  ⟨Kd.R_lower (Kd.R_mono (Kd.R_bound h) (fun _ hk => ⟨hk.2.1, hk.2.2.1⟩)) hB, hB, Nat.le_refl _⟩
theorem OwnR.below {B a b : Nat} {w w' : World} {v : Value} {T : List Int} (h : OwnR B a b w v T) (hb : Below w.heap.size w w') : OwnR B a b w' v T :=
  ⟨Kd.R_kept h.s (Kept.of_below hb (fun _ => False)) (fun _ _ h => h), h.lo, Nat.le_trans h.hi hb.size⟩
theorem OwnR.kept {B a b c d : Nat} {w w' : World} {v : Value} {T : List Int} (h : OwnR B a b w v T) (hk : Kept w w' (Itv c d)) (hd : b ≤ c ∨ d ≤ a) : OwnR B a b w' v T :=
  ⟨Kd.R_kept h.s hk (fun k h1 h2 => by have := h1.1; have := h1.2; have := h2.1; have := h2.2; omega), h.lo, Nat.le_trans h.hi hk.1⟩
theorem OwnR.slice {B a b : Nat} {w : World} {v : Value} {T : List Int} (h : OwnR B a b w v T) : ∃ A c, v = .slice A T.length c ∧ T.length ≤ c := by
  obtain ⟨A, c, rfl⟩ := Kd.R_slice h.s
  exact ⟨A, c, rfl, (Kd.R_reads' h.s).2.1⟩
theorem OwnR.reads {B a b n c : Nat} {A : Option Addr} {w : World} {T : List Int} (h : OwnR B a b w (.slice A n c) T) : Kd.C (Kd.int .i64) w A T.length T := (Kd.R_reads' h.s).2.2
theorem OwnR.reads' {B a b n c m : Nat} {A : Option Addr} {w : World} {T : List Int} (h : OwnR B a b w (.slice A n c) T) (e : T.length = m) : Kd.C (Kd.int .i64) w A m T := e ▸ h.reads
/-- Marking. -/
theorem mark_ownR {B a b : Nat} {v : Value} {T : List Int} {W w : World} (hW : W.heap.size = B) (hB : Below B W w) (h : OwnR B a b w v T) (hf : T.length ≤ 1048576) :
    Calls Try.prog 20 #[v, .int .i64 1] w fun e w' => e = .returned (.int .i64 (1 + T.length : Nat)) ∧ OwnR B a b w' v (numR T.length 1) ∧ Below B W w' ∧ Kept w w' (Itv a b) := by
  subst hW
  obtain ⟨k, hk⟩ := (markIntS_ev T 1 (by omega)).rounds
  refine (laws_markIntS.calls k (Itv a b) v T (1 : Nat) _ _ W w hB h.s hk).mono ?_
  rintro e w' ⟨h1, h2, h3, h4⟩
  exact ⟨h1, ⟨Kd.R_flat (fun h => h) h2 (fun k hk _ => h.s.1 k hk), h.lo, Nat.le_trans h.hi h4.1⟩, h3, h4⟩
theorem eqIntS_ev (l : List Int) (hl : l.length ≤ 1048576) : Ev (fun k => laws_eqIntS.f k l l) true := by
  unfold laws_eqIntS.f
  exact Ev.ite_pos rfl (eqIntS_l0 l (by omega) l.length 0 (by omega))
end Go.Proofs.Ytdcdkckpmkfjdaa.L

/- The walk of the law FnExactGreatestTable, out of contracts of the two functions. -/
namespace Go.Proofs.Ytdcdkckpmkfjdaa.Law
open Go.RowKit Go.Proofs.Ytdcdkckpmkfjdaa Go.Proofs.Ytdcdkckpmkfjdaa.P Go.Proofs.Ytdcdkckpmkfjdaa.L Go.Proofs.YtdcdkckpmkfjdaaW.PrintWords Go.Proofs.YtdcdkckpmkfjdaaW.PrintLast Go.Proofs.YtdcdkckpmkfjdaaW.PrintMore
set_option linter.unusedVariables false
set_option linter.unusedSimpArgs false

set_option maxHeartbeats 8000000 in
set_option maxRecDepth 100000 in
theorem lawGreatestTable (n : Int) (r : List Int) (b : Bool) (W : World) (hr : r.length ≤ 1048576)
    (hspec : ∀ W' : World, Calls Try.prog 51 #[.int .i64 n] W' (RetC (Kd.int .i64) W' r b))
    (himpl : ∀ W' : World, Calls Try.prog 52 #[.int .i64 n] W' (RetTR W' r b)) :
    Calls Try.prog 15 #[.int .i64 n] W fun e w' => e = .returned (.bool true) ∧ Below W.heap.size W w' := by
  have HSP := Aside0.mk hspec
  have HIM := Aside0.mk himpl
  have HB := Aside0.mk (Below.refl W.heap.size W)
  obtain ⟨kr, hkr⟩ := (eqIntS_ev r hr).rounds
  obtain ⟨kh, hkh⟩ := (heldIntS_ev r.length 1 (by omega)).rounds
  have HER := Aside0.mk (fun W' A0 c0 A1 c1 h0 g0 h1 g1 => laws_eqIntS.calls kr A0 c0 r A1 c1 r true W' h0 g0 h1 g1 hkr)
  have HHE := Aside0.mk (fun W' A0 c0 h0 g0 => laws_heldIntS.calls kh A0 c0 (numR r.length 1) 1 ((1 + r.length) : Nat) W' h0 g0 hkh)
  have HMG := Aside0.mk (fun (a b : Nat) (v : Value) (w : World) (hB : Below W.heap.size W w) (ho : OwnR W.heap.size a b w v r) => mark_ownR rfl hB ho hr)
  have hnr : ¬ (((1 + r.length) : Nat) : Int) < 0 := by omega
  have hml : (numR r.length 1).length = r.length := numR_length _ _
  obtain ⟨nr, hnre⟩ : ∃ n, n = (1 + r.length) := ⟨_, rfl⟩
  rw [← hnre] at HMG HHE hnr
  rw [hml] at HHE
  obtain ⟨mr, hmr⟩ : ∃ m, m = (numR r.length 1) := ⟨_, rfl⟩
  rw [← hmr] at HMG HHE hml
  have HML := Aside0.mk hml
  clear hr hspec himpl hkr hkh hnre hmr hml
  go_enter Try.func15, Try.ntmps15
  go_wp2_with (first
    | (go_at_call 51; refine (HSP.out _).mono ?_; rintro e w1 ⟨Aw, cw, rfl, hcw, hC, hb⟩; have HW := Aside0.mk (Old.new (Kd.heap_int .i64) hC); have HWc := Aside0.mk hcw; (have n_ := Aside0.mk (below_step HB.out hb)); clear HB; have HB := n_; clear hb hC hcw)
    | (go_at_call 52; have hg_ := HG; clear hg_; refine (HIM.out _).mono ?_; rintro e w1 ⟨v, rfl, hS, hb⟩; have ho := OwnR.new hS HB.out.size; clear hS; obtain ⟨Ah, ch, rfl, hch⟩ := ho.slice; (try (have n_ := Aside0.mk (HW.out.below hb); clear HW; have HW := n_)); (try (have n_ := Aside0.mk (HG.out.below hb); clear HG; have HG := n_)); (try (have n_ := Aside0.mk (HG1.out.below hb); clear HG1; have HG1 := n_)); (have n_ := Aside0.mk (below_step HB.out hb)); clear HB; have HB := n_; clear hb; have HG1 := Aside0.mk ho; have HG1c := Aside0.mk hch; clear ho hch)
    | (go_at_call 52; refine (HIM.out _).mono ?_; rintro e w1 ⟨v, rfl, hS, hb⟩; have ho := OwnR.new hS HB.out.size; clear hS; obtain ⟨Ag, cg, rfl, hcg⟩ := ho.slice; have HD13 := Aside0.mk HW.out.hi; (try (have n_ := Aside0.mk (HW.out.below hb); clear HW; have HW := n_)); (try (have n_ := Aside0.mk (HG.out.below hb); clear HG; have HG := n_)); (try (have n_ := Aside0.mk (HG1.out.below hb); clear HG1; have HG1 := n_)); (have n_ := Aside0.mk (below_step HB.out hb)); clear HB; have HB := n_; clear hb; have HG := Aside0.mk ho; have HGc := Aside0.mk hcg; clear ho hcg)
    | (go_at_call 19; (first | (with_reducible refine (HER.out _ _ _ _ _ HG.out.reads HGc.out HW.out.reads HWc.out).mono ?_) | (with_reducible refine (HER.out _ _ _ _ _ HG1.out.reads HG1c.out HW.out.reads HWc.out).mono ?_)); rintro e w1 ⟨rfl, hd⟩; have hb := hd.below; clear hd; (try (have n_ := Aside0.mk (HW.out.below hb); clear HW; have HW := n_)); (try (have n_ := Aside0.mk (HG.out.below hb); clear HG; have HG := n_)); (try (have n_ := Aside0.mk (HG1.out.below hb); clear HG1; have HG1 := n_)); (have n_ := Aside0.mk (below_step HB.out hb)); clear HB; have HB := n_; clear hb)
    | (go_at_call 20; (with_reducible refine (HMG.out _ _ _ _ HB.out HG.out).mono ?_); rintro e w1 ⟨rfl, ho, hb, hk⟩; have n1_ := Aside0.mk (HW.out.kept hk HD13.out); clear HW HG HB hk; have HW := n1_; have HG := Aside0.mk ho; have HB := Aside0.mk hb; clear n1_ hb ho)
    | (go_at_call 21; (with_reducible refine (HHE.out _ _ _ (HG.out.reads' HML.out) HGc.out).mono ?_); rintro e w1 ⟨rfl, hd⟩; have hb := hd.below; clear hd; (try (have n_ := Aside0.mk (HW.out.below hb); clear HW; have HW := n_)); (try (have n_ := Aside0.mk (HG.out.below hb); clear HG; have HG := n_)); (try (have n_ := Aside0.mk (HG1.out.below hb); clear HG1; have HG1 := n_)); (have n_ := Aside0.mk (below_step HB.out hb)); clear HB; have HB := n_; clear hb))
  go_ret
  exact ⟨rfl, HB.out⟩
end Go.Proofs.Ytdcdkckpmkfjdaa.Law

-- Written by a program of this session (wip/mkprint.py): out of the translation; Lean checks it.
namespace Go.Proofs.Ytdcdkckpmkfjdaa.P
open Go.RowKit Go.Proofs.YtdcdkckpmkfjdaaW.PrintWords Go.Proofs.YtdcdkckpmkfjdaaW.PrintLast Go.Proofs.YtdcdkckpmkfjdaaW.PrintMore
attribute [local go_sem] max2_int min2_int max_two min_two max_three min_three max_four min_four   -- for this text's walks alone
set_option linter.unusedVariables false
set_option linter.unusedSimpArgs false

/-! ### spec_GreatestTable: function 51 -/
def spec_GreatestTable.l0 : Nat → Int → List Int → List (List (List Int)) → Int → Int → Option (List Int × Bool)
  | 0, _, _, _, _, _ => none
  | k + 1, x0, x4, x13, x14, x15 => if x15 < x14 then (if 0 ≤ x15 then (if x15 < (x13.length : Int) then ((spec_dpEqual.f k (rd_L2 x13 x15) x0).bind fun t457 => (if 0 ≤ t457 then (if t457 < (x4.length : Int) then (spec_GreatestTable.l0 k x0 (x4.set (t457 : Int).toNat (wrap64 ((rd x4 t457) + 1))) x13 x14 (wrap64 (x15 + 1))) else (none)) else (none))) else (none)) else (none)) else (some (x4, true))
def spec_GreatestTable.f (k : Nat) (a0 : Int) : Option (List Int × Bool) := (spec_l1In.f a0 2 4).bind fun t449 => (if t449 = true then (if 0 ≤ a0 then (if (a0 : Int).toNat ≤ 35184372088832 then ((spec_dpAll.f k ([] : List (List Int)) a0).bind fun t453 => (spec_GreatestTable.l0 k a0 (List.replicate (a0 : Int).toNat 0) t453 (t453.length : Int) 0)) else (none)) else (none)) else (some (([] : List Int), false)))
theorem spec_GreatestTable.mono_l : ∀ k, (∀ y0 y1 y2 y3 y4, LeO (spec_GreatestTable.l0 k y0 y1 y2 y3 y4) (spec_GreatestTable.l0 (k + 1) y0 y1 y2 y3 y4))
  | 0 => fun _ _ _ _ _ r h => by simp [spec_GreatestTable.l0] at h
  | k + 1 => by
    have ih0 := spec_GreatestTable.mono_l k
    · intro y0 y1 y2 y3 y4
      unfold spec_GreatestTable.l0
      repeat' first
      | (with_reducible exact ih0 _ _ _ _ _)
      | (with_reducible exact spec_dpAll.mono _ _ _)
      | (with_reducible exact spec_dpEqual.mono _ _ _)
      | (with_reducible exact LeO.refl _)
      | (with_reducible exact LeO.none _)
      | (with_reducible refine LeO.ite ?_ ?_)
      | (with_reducible refine LeO.bind ?_ (fun _ => ?_))
      | exact ih0 _ _ _ _ _
      | exact spec_dpAll.mono _ _ _
      | exact spec_dpEqual.mono _ _ _
      | exact LeO.none _
      | refine LeO.ite ?_ ?_
      | refine LeO.bind ?_ (fun _ => ?_)
theorem spec_GreatestTable.mono : ∀ a0 k, LeO (spec_GreatestTable.f k a0) (spec_GreatestTable.f (k + 1) a0) := by
  intro a0 k
  have ih0 := spec_GreatestTable.mono_l k
  unfold spec_GreatestTable.f
  repeat' first
      | (with_reducible exact ih0 _ _ _ _ _)
      | (with_reducible exact spec_dpAll.mono _ _ _)
      | (with_reducible exact spec_dpEqual.mono _ _ _)
      | (with_reducible exact LeO.refl _)
      | (with_reducible exact LeO.none _)
      | (with_reducible refine LeO.ite ?_ ?_)
      | (with_reducible refine LeO.bind ?_ (fun _ => ?_))
      | exact ih0 _ _ _ _ _
      | exact spec_dpAll.mono _ _ _
      | exact spec_dpEqual.mono _ _ _
      | exact LeO.none _
      | refine LeO.ite ?_ ?_
      | refine LeO.bind ?_ (fun _ => ?_)
set_option maxHeartbeats 8000000 in
set_option maxRecDepth 100000 in
theorem spec_GreatestTable.calls (k : Nat) (a0 : Int) (r1 : List Int) (r2 : Bool) (w : World) (h : spec_GreatestTable.f k a0 = some (r1, r2)) :
    Calls Try.prog 51 #[.int .i64 a0] w fun e w' => ∃ v0_ : Value, e = .returned (.tuple #[v0_, .bool r2]) ∧ Kd.R (Kd.int .i64) 3 w' w.heap.size (fun _ => True) v0_ r1 ∧ Below w.heap.size w w' := by
  have HB := Aside0.mk (Below.refl w.heap.size w)
  have H : ((spec_l1In.f a0 2 4).bind fun t449 => (if t449 = true then (if 0 ≤ a0 then (if (a0 : Int).toNat ≤ 35184372088832 then ((spec_dpAll.f k ([] : List (List Int)) a0).bind fun t453 => (spec_GreatestTable.l0 k a0 (List.replicate (a0 : Int).toNat 0) t453 (t453.length : Int) 0)) else (none)) else (none)) else (some (([] : List Int), false)))) = some (r1, r2) := h
  clear h
  replace H := Option.bind_eq_some_iff.mp H
  obtain ⟨t449, A20, H⟩ := H
  replace H : (if t449 = true then (if 0 ≤ a0 then (if (a0 : Int).toNat ≤ 35184372088832 then ((spec_dpAll.f k ([] : List (List Int)) a0).bind fun t453 => (spec_GreatestTable.l0 k a0 (List.replicate (a0 : Int).toNat 0) t453 (t453.length : Int) 0)) else (none)) else (none)) else (some (([] : List Int), false))) = some (r1, r2) := H
  have A2 := Aside0.mk A20
  clear A20
  by_cases c3 : t449 = true
  · subst c3
    have H1 : (if 0 ≤ a0 then (if (a0 : Int).toNat ≤ 35184372088832 then ((spec_dpAll.f k ([] : List (List Int)) a0).bind fun t453 => (spec_GreatestTable.l0 k a0 (List.replicate (a0 : Int).toNat 0) t453 (t453.length : Int) 0)) else (none)) else (none)) = some (r1, r2) := by rw [if_pos rfl] at H; exact H
    clear H
    have H := H1
    clear H1
    by_cases c4 : 0 ≤ a0
    · rw [if_pos c4] at H
      have c4b0 := eq_true c4
      have c4b1 : decide (0 ≤ a0) = true := decide_eq_true c4
      clear c4
      by_cases c5 : (a0 : Int).toNat ≤ 35184372088832
      · rw [if_pos c5] at H
        have c5b0 := eq_true c5
        have c5b1 : decide ((a0 : Int).toNat ≤ 35184372088832) = true := decide_eq_true c5
        clear c5
        obtain ⟨y450, hy450⟩ : ∃ y_ : List Int, y_ = (List.replicate (a0 : Int).toNat 0) := ⟨_, rfl⟩
        replace H : ((spec_dpAll.f k ([] : List (List Int)) a0).bind fun t453 => (spec_GreatestTable.l0 k a0 y450 t453 (t453.length : Int) 0)) = some (r1, r2) := by first | (rw [hy450]; with_reducible exact H) | (have H2_ := (Option.bind_some _ _).symm.trans H; rw [hy450]; with_reducible exact H2_) | (have H2_ := (Option.bind_some _ _).symm.trans H; with_reducible exact H2_) | with_reducible exact H | (rw [hy450]; exact H) | exact H
        have Ny450 := Aside0.mk hy450
        clear hy450
        replace H := Option.bind_eq_some_iff.mp H
        obtain ⟨t453, A60, H⟩ := H
        replace H : (spec_GreatestTable.l0 k a0 y450 t453 (t453.length : Int) 0) = some (r1, r2) := H
        have A6 := Aside0.mk A60
        clear A60
        have H' := Aside0.mk H
        clear H
        go_enter Try.func51, Try.ntmps51
        go_wp2_with (first | ((with_reducible refine gate_callee (f := 99) rfl ?_); refine goesL_ (some 8) rfl rfl Try.func99 (by kernel_rfl) rfl #[.int .i64 a0, .int .i64 2, .int .i64 4] rfl (by (try simp only [List.map_toArray, List.map_cons, List.map_nil]); first | done | rfl | (simp only [List.length_drop, List.length_take]; rfl)) ?_; (with_reducible refine (spec_l1In.calls a0 2 4 true _ A2.out).mono ?_); rintro e w' ⟨rfl, ⟨nd, rfl⟩⟩; refine ⟨_, rfl, ?_⟩) | ((with_reducible refine gate_dst (N := 11) rfl ?_); refine Kd.R_make (Kd.int .i64) _ 3 rfl (N := 11) rfl 22 _ _ rfl a0 rfl rfl Try.underlying22 (.int .i64 0) 8 info3 rfl (by decide) (by omega) 0 (ok := fun _ => True) (okp := fun _ => True) rfl (fun _ hk => hk) trivial (of_decide_eq_true (by first | (with_reducible assumption) | assumption)) (Nat.le_trans (Nat.mul_le_mul_right _ (of_decide_eq_true (by first | (with_reducible assumption) | assumption) : a0.toNat ≤ 35184372088832)) (by omega)) (Below.refl _ _) (Nat.le_refl _) ?_; intro v451 w7 ho8 hb hg_ hnew_; clear hg_ hnew_; (first | rw [← Ny450.out] at ho8 | (simp only [Int.reduceToNat] at ho8; rw [← Ny450.out] at ho8)); have n0_ := Aside0.mk (Kd.R_lower ho8 (below_size (by repeat (first | (with_reducible first | exact HB.out | apply below_alloc | apply pw_below_drewN | apply below_drew1) | exact HB.out)))); have n1_ := Aside0.mk (below_step (by repeat (first | (with_reducible first | exact HB.out | apply below_alloc | apply pw_below_drewN | apply below_drew1) | exact HB.out)) hb); clear HB; have HO452 := n0_; have HB := n1_; clear n0_ n1_; clear hb ho8) | ((with_reducible refine gate_callee (f := 85) rfl ?_); refine goesL_ (some 13) rfl rfl Try.func85 (by kernel_rfl) rfl #[.slice none 0 0, .int .i64 a0] rfl (by (try simp only [List.map_toArray, List.map_cons, List.map_nil]); first | done | rfl | (simp only [List.length_drop, List.length_take]; rfl)) ?_; (refine (spec_dpAll.calls k (fun k_ => False) _ _ ([] : List (List Int)) a0 t453 _ ?side1 A6.out).mono ?_); (case side1 => exact Kd.V_nil _ _ _ _ _); rintro e w9 ⟨v454, rfl, ho0, hb⟩; refine ⟨_, rfl, ?_⟩; have n0_ := Aside0.mk (Kd.R_below (by (with_reducible repeat (first | apply Kd.R_alloc | apply Kd.R_drewN | apply Kd.R_drew)); exact HO452.out) hb); have n1_ := Aside0.mk (Kd.N_lower (Kd.N_mono (ok' := fun k_ => some k_ ≠ (v451 : Value).ownBlock) ho0 (fun k_ hk_ => Or.elim hk_ (fun hs_ => (hs_).elim) (fun hn_ => (Kd.fresh' (Kd.R_lt (by (with_reducible repeat (first | apply Kd.R_alloc | apply Kd.R_drewN | apply Kd.R_drew)); exact HO452.out)) k_ hn_)))) (below_size (by repeat (first | (with_reducible first | exact HB.out | apply below_alloc | apply pw_below_drewN | apply below_drew1) | exact HB.out)))); have n2_ := Aside0.mk (below_step (by repeat (first | (with_reducible first | exact HB.out | apply below_alloc | apply pw_below_drewN | apply below_drew1) | exact HB.out)) hb); clear HO452; clear HB; have HO452 := n0_; have HO455 := n1_; have HB := n2_; clear n0_ n1_ n2_; (try clear hb); (try clear hb2); (try clear hk); (try clear hi); (try clear ho0); obtain ⟨Ao10, co10, eo10⟩ := Kd.N_slice HO455.out; subst eo10))
        go_loopg [15] k (fun kq v15 w' => ∃ (x4_1 : List Int) (x15_1 : Int), v15 = .int .i64 x15_1 ∧ Aside0 (spec_GreatestTable.l0 kq a0 x4_1 t453 (t453.length : Int) x15_1 = some (r1, r2)) ∧ Aside0 (kq ≤ k) ∧ Aside0 (Kd.R (Kd.int .i64) 3 w' w.heap.size (fun _ => True) v451 x4_1) ∧ Aside0 (Kd.N (Kd.slice 22 (Kd.slice 3 (Kd.int .i64))) 36 w' w.heap.size (fun k_ => some k_ ≠ (v451 : Value).ownBlock) (.slice Ao10 t453.length co10) t453) ∧ Aside0 (Below w.heap.size w w'))
        case atStart => exact ⟨(y450), (0), (by first | rfl | (simp; done) | (simp [*]; done)), H', ⟨Nat.le_refl _⟩, ⟨by (with_reducible repeat (first | apply Kd.R_alloc | apply Kd.R_drewN | apply Kd.R_drew)); exact HO452.out⟩, ⟨by (with_reducible repeat (first | apply Kd.N_alloc | apply Kd.N_drewN | apply Kd.N_drew)); exact HO455.out⟩, ⟨by repeat (first | (with_reducible first | exact HB.out | apply below_alloc | apply pw_below_drewN | apply below_drew1) | exact HB.out)⟩⟩
        case round =>
          clear H'
          try clear p2
          try clear c3
          try clear c4
          try clear c4b0
          try clear c4b1
          try clear c5
          try clear c5b0
          try clear c5b1
          try clear c8
          try clear c9
          obtain ⟨x4_1, x15_1, rfl, HA, HK1, HO_4, HO_13, HB⟩ := hrel
          cases gk with
          | zero => exact absurd HA.out (by simp [spec_GreatestTable.l0])
          | succ k1 =>
            have H := HA.out
            clear HA
            simp only [spec_GreatestTable.l0] at H
            by_cases c11 : x15_1 < (t453.length : Int)
            · rw [if_pos c11] at H
              have c11b0 : decide (x15_1 < (t453.length : Int)) = true := decide_eq_true c11
              clear c11
              by_cases c12 : 0 ≤ x15_1
              · rw [if_pos c12] at H
                have c12b0 : decide (0 ≤ x15_1) = true := decide_eq_true c12
                clear c12
                by_cases c13 : x15_1 < (t453.length : Int)
                · rw [if_pos c13] at H
                  have c13b0 : decide (x15_1 < (t453.length : Int)) = true := decide_eq_true c13
                  clear c13
                  replace H := Option.bind_eq_some_iff.mp H
                  obtain ⟨t457, A140, H⟩ := H
                  replace H : (if 0 ≤ t457 then (if t457 < (x4_1.length : Int) then (spec_GreatestTable.l0 k1 a0 (x4_1.set (t457 : Int).toNat (wrap64 ((rd x4_1 t457) + 1))) t453 (t453.length : Int) (wrap64 (x15_1 + 1))) else (none)) else (none)) = some (r1, r2) := H
                  have A14 := Aside0.mk A140
                  clear A140
                  by_cases c15 : 0 ≤ t457
                  · rw [if_pos c15] at H
                    have c15b0 : decide (0 ≤ t457) = true := decide_eq_true c15
                    clear c15
                    by_cases c16 : t457 < (x4_1.length : Int)
                    · rw [if_pos c16] at H
                      have c16b0 : decide (t457 < (x4_1.length : Int)) = true := decide_eq_true c16
                      clear c16
                      obtain ⟨y459, hy459⟩ : ∃ y_ : List Int, y_ = (x4_1.set (t457 : Int).toNat (wrap64 ((rd x4_1 t457) + 1))) := ⟨_, rfl⟩
                      replace H : (spec_GreatestTable.l0 k1 a0 y459 t453 (t453.length : Int) (wrap64 (x15_1 + 1))) = some (r1, r2) := by first | (rw [hy459]; with_reducible exact H) | (have H2_ := (Option.bind_some _ _).symm.trans H; rw [hy459]; with_reducible exact H2_) | (have H2_ := (Option.bind_some _ _).symm.trans H; with_reducible exact H2_) | with_reducible exact H | (rw [hy459]; exact H) | exact H
                      have Ny459 := Aside0.mk hy459
                      clear hy459
                      have H' := Aside0.mk H
                      clear H
                      have p456 : 0 ≤ (x15_1 : Int) := of_decide_eq_true (by first | (with_reducible assumption) | assumption)
                      have q456 : x15_1 < (t453.length : Int) := of_decide_eq_true (by first | (with_reducible assumption) | assumption)
                      obtain ⟨ad456, A456_0, c456_0, e456, hx456_0, hl456_0, hi456_0⟩ := at_L2 (Kd.N_reads' HO_13.out).2.2 x15_1 p456 q456
                      cases e456
                      obtain ⟨ce456, hce456, hMe456, hcc456⟩ := Kd.N_get HO_13.out [] x15_1 p456 (by first | exact q456 | exact of_decide_eq_true (by first | (with_reducible assumption) | assumption) | (have e_ := (Kd.N_reads' HO_13.out).1; omega))
                      obtain ⟨ua456_0, uc456_0, rfl, ul456_0, ge456_0⟩ := Kd.FK_slice_open hMe456
                      have hv456_0 := hcc456 0 _ rfl
                      rw [Nat.add_zero, show ((Kd.slice 22 (Kd.slice 3 (Kd.int .i64)))).sz = 1 from rfl, Nat.mul_one] at hv456_0
                      replace hv456_0 := Option.some.inj (hv456_0.symm.trans hx456_0)
                      injection hv456_0 with hva_ hvn_ hvc_
                      rw [hva_] at ge456_0
                      rw [hvc_] at ul456_0
                      have HL456_0 := Aside0.mk (show Kd.V (Kd.slice 3 (Kd.int .i64)) 22 _ w.heap.size _ _ (rd_L2 t453 x15_1) from Kd.V_mk ul456_0 ge456_0)
                      clear hva_ hvn_ hvc_ ge456_0 ul456_0
                      clear hcc456 hce456
                      have HR456_0 := Aside0.mk hi456_0
                      have HC456_0 := Aside0.mk hl456_0
                      clear hi456_0 hl456_0
                      replace p456 := eq_true p456
                      replace q456 := eq_true q456
                      go_wp2_with (first | ((with_reducible refine gate_callee (f := 100) rfl ?_); refine goesL_ (some 22) rfl rfl Try.func100 (by kernel_rfl) rfl #[.slice A456_0 (rd_L2 t453 x15_1).length c456_0, .int .i64 a0] rfl (by (try simp only [List.map_toArray, List.map_cons, List.map_nil]); first | done | rfl | (simp only [List.length_drop, List.length_take]; rfl)) ?_; (with_reducible refine (spec_dpEqual.calls k1 _ _ (rd_L2 t453 x15_1) a0 t457 _ ?side1 ?side2 A14.out).mono ?_); (case side1 => repeat (first | exact (by repeat (first | (with_reducible exact HR456_0.out) | (with_reducible refine Kd.C_alloc ?_ _) | (with_reducible refine Kd.C_drewN ?_ _) | (with_reducible refine Kd.C_drew ?_) | exact HR456_0.out)) | (with_reducible refine Kd.C_alloc ?_ _) | (with_reducible refine Kd.C_drewN ?_ _) | (with_reducible refine Kd.C_drew ?_))); (case side2 => exact HC456_0.out); rintro e w' ⟨rfl, ⟨nd, rfl⟩⟩; refine ⟨_, rfl, ?_⟩; (try (rw [drewN_self wr]; generalize hq_ : World.drewN wr _ = wr; have n0_ : Aside0 (Kd.V (Kd.slice 3 (Kd.int .i64)) 22 wr w.heap.size (fun k_ => some k_ ≠ (.slice (some ad456) t453.length co10 : Value).ownBlock ∧ some k_ ≠ (v451 : Value).ownBlock) (.slice A456_0 (rd_L2 t453 x15_1).length c456_0) (rd_L2 t453 x15_1)) := ⟨by rw [← hq_]; exact (by (with_reducible repeat (first | apply Kd.V_alloc | apply Kd.V_drewN | apply Kd.V_drew)); exact Kd.V_mono HL456_0.out (fun _ hk => ⟨hk.2, hk.1⟩))⟩; have n1_ : Aside0 (Kd.N (Kd.slice 22 (Kd.slice 3 (Kd.int .i64))) 36 wr w.heap.size (fun k_ => some k_ ≠ (v451 : Value).ownBlock) (.slice (some ad456) t453.length co10) t453) := ⟨by rw [← hq_]; exact (by (with_reducible repeat (first | apply Kd.N_alloc | apply Kd.N_drewN | apply Kd.N_drew)); exact HO_13.out)⟩; have n2_ : Aside0 (Kd.R (Kd.int .i64) 3 wr w.heap.size (fun _ => True) v451 x4_1) := ⟨by rw [← hq_]; exact (by (with_reducible repeat (first | apply Kd.R_alloc | apply Kd.R_drewN | apply Kd.R_drew)); exact HO_4.out)⟩; have n3_ : Aside0 (Below w.heap.size w wr) := ⟨by rw [← hq_]; exact (by repeat (first | (with_reducible first | exact HB.out | apply below_alloc | apply pw_below_drewN | apply below_drew1) | exact HB.out))⟩; have n4_ : Aside0 (Kd.C (Kd.slice 3 (Kd.int .i64)) wr A456_0 (rd_L2 t453 x15_1).length (rd_L2 t453 x15_1)) := ⟨by rw [← hq_]; exact (by repeat (first | (with_reducible exact HR456_0.out) | (with_reducible refine Kd.C_alloc ?_ _) | (with_reducible refine Kd.C_drewN ?_ _) | (with_reducible refine Kd.C_drew ?_) | exact HR456_0.out))⟩; clear HL456_0 HO_13 HO_4 HB HR456_0 hq_; have HL456_0 := n0_; have HO_13 := n1_; have HO_4 := n2_; have HB := n3_; have HR456_0 := n4_; clear n0_ n1_ n2_ n3_ n4_)); obtain ⟨Ao18, co18, eo18⟩ := Kd.R_slice HO_4.out; subst eo18; have p458 : 0 ≤ (t457 : Int) := of_decide_eq_true (by first | (with_reducible assumption) | assumption); have q458 : t457 < (x4_1.length : Int) := of_decide_eq_true (by first | (with_reducible assumption) | assumption); obtain ⟨ad458, e458, hx458_0⟩ := Kd.at_int (Kd.R_reads' HO_4.out).2.2 t457 p458 q458; cases e458; replace p458 := eq_true p458; replace q458 := eq_true q458; have p17 : 0 ≤ (t457 : Int) := of_decide_eq_true (by first | (with_reducible assumption) | assumption); have q17 : (t457 : Int) < ((x4_1.length : Int) : Int) := of_decide_eq_true (by first | (with_reducible assumption) | assumption); obtain ⟨go17, co17, eo17, gb17, gl17, cl17, HG17⟩ := Kd.R_form HO_4.out (by omega); (first | cases eo17 | (injection eo17 with ea_ en_ ec_; (first | subst ea_ | (injection ea_ with ea_; subst ea_)); subst ec_; clear en_)); have GB17 := Aside0.mk gb17; have GG17 := Aside0.mk HG17; clear gb17 gl17 HG17; (first | simp only [add_plain] at hx458_0 | skip); obtain ⟨hx17_0, hf17_0⟩ := Kd.R_celln 0 HO_4.out (t457 : Int) p17 q17; replace p17 := eq_true p17; replace q17 := eq_true q17; obtain ⟨hy19_, hz19_⟩ := Kd.R_celln 0 HO_4.out (t457 : Int) (of_decide_eq_true (by first | (with_reducible assumption) | assumption)) (of_decide_eq_true (by first | (with_reducible assumption) | assumption)); have HP19 := Kd.R_putg HO_4.out (t457 : Int) (wrap64 ((rd x4_1 t457) + 1))) | ((with_reducible refine gate_store (t := 3) (p := 26) rfl ?_); refine store_event (t := 3) (p := 26) (v := ?vo_w20) (w1 := (wr.setCell ⟨go17, (t457 : Int).toNat, none⟩ (.int .i64 (wrap64 ((rd x4_1 t457) + 1))))) ?hg ?ho ?hn ?hr ?_; (case ho => rfl); (case hg => rfl); (case hn => rfl); (case hr => first | (go_simp; done) | (go_simp; rfl)); intro w20 hw; have hg : wr.grownBy w20 (some go17) := (by rw [hw]; exact HP19.2); have hp_ : Kd.R (Kd.int .i64) 3 w20 w.heap.size (fun _ => True) (.slice (some ⟨go17, 0, none⟩) x4_1.length co18) y459 := (by rw [hw, Ny459.out]; exact HP19.1); clear HP19; have n0_ := Aside0.mk (hp_); have n1_ := Aside0.mk (Kd.N_afterv (v := (.slice (some ⟨go17, 0, none⟩) x4_1.length co18)) (v1 := (.slice (some ⟨go17, 0, none⟩) x4_1.length co18)) (ok := (fun _ => True)) (by (with_reducible repeat (first | apply Kd.N_alloc | apply Kd.N_drewN | apply Kd.N_drew)); exact Kd.N_mono HO_13.out (fun _ hk => ⟨trivial, hk⟩)) hg (.inl rfl)); have n2_ := Aside0.mk (Kd.V_afterv (v := (.slice (some ⟨go17, 0, none⟩) x4_1.length co18)) (v1 := (.slice (some ⟨go17, 0, none⟩) x4_1.length co18)) (ok := (fun k_ => some k_ ≠ (.slice (some ad456) t453.length co10 : Value).ownBlock)) (by (with_reducible repeat (first | apply Kd.V_alloc | apply Kd.V_drewN | apply Kd.V_drew)); exact Kd.V_mono HL456_0.out (fun _ hk => ⟨hk.2, hk.1⟩)) hg (.inl rfl)); have n3_ := Aside0.mk ((by rw [hw]; exact below_set (HB.out) GB17.out : Below w.heap.size w w20)); clear HO_4; clear HO_13; clear HL456_0; clear HB; have HO_4 := n0_; have HO_13 := n1_; have HL456_0 := n2_; have HB := n3_; clear n0_ n1_ n2_ n3_; clear hg hw hp_))
                      go_roundg k1
                      case measure => have := HK1.out; omega
                      case rel => exact ⟨(y459), (wrap64 (x15_1 + 1)), (by first | rfl | (simp; done) | (simp [*]; done)), H', ⟨by have := HK1.out; omega⟩, ⟨by rw [Ny459.out]; have h_ := Kd.R_putn HO_4.out t457 (wrap64 ((rd x4_1 t457) + 1)); exact h_⟩, ⟨Kd.N_far (p := ⟨_, t457.toNat, none⟩) HO_13.out (fun k hk e => hk (congrArg some e)) _⟩, ⟨below_set HB.out (Kd.R_base HO_4.out _ rfl)⟩⟩
                    · rw [if_neg c16] at H
                      exact absurd H (by simp)
                  · rw [if_neg c15] at H
                    exact absurd H (by simp)
                · rw [if_neg c13] at H
                  exact absurd H (by simp)
              · rw [if_neg c12] at H
                exact absurd H (by simp)
            · rw [if_neg c11] at H
              have c11b0 : decide (x15_1 < (t453.length : Int)) = false := decide_eq_false c11
              clear c11
              simp only [Option.some.injEq, Prod.mk.injEq] at H
              obtain ⟨rfl, rfl⟩ := H
              go_wp2
              go_ret2
              exact ⟨_, by first | rfl | (simp [errW_none, errW_some] <;> rfl) | (simp [*, errW_none, errW_some] <;> rfl), by (with_reducible repeat (first | apply Kd.R_alloc | apply Kd.R_drewN | apply Kd.R_drew)); exact HO_4.out, by repeat (first | (with_reducible first | exact HB.out | apply below_alloc | apply pw_below_drewN | apply below_drew1) | exact HB.out)⟩
      · rw [if_neg c5] at H
        exact absurd H (by simp)
    · rw [if_neg c4] at H
      exact absurd H (by simp)
  · replace c3 := Bool.eq_false_iff.mpr c3
    subst c3
    have H1 : (some (([] : List Int), false)) = some (r1, r2) := by rw [if_neg (show ¬ (false = true) by decide)] at H; exact H
    clear H
    have H := H1
    clear H1
    simp only [Option.some.injEq, Prod.mk.injEq] at H
    obtain ⟨rfl, rfl⟩ := H
    go_enter Try.func51, Try.ntmps51
    go_wp2_with (first | ((with_reducible refine gate_callee (f := 99) rfl ?_); refine goesL_ (some 8) rfl rfl Try.func99 (by kernel_rfl) rfl #[.int .i64 a0, .int .i64 2, .int .i64 4] rfl (by (try simp only [List.map_toArray, List.map_cons, List.map_nil]); first | done | rfl | (simp only [List.length_drop, List.length_take]; rfl)) ?_; (with_reducible refine (spec_l1In.calls a0 2 4 false _ A2.out).mono ?_); rintro e w' ⟨rfl, ⟨nd, rfl⟩⟩; refine ⟨_, rfl, ?_⟩))
    go_ret2
    exact ⟨_, by first | rfl | (simp [errW_none, errW_some] <;> rfl) | (simp [*, errW_none, errW_some] <;> rfl), by first | exact Kd.R_nil _ _ _ _ _ | exact Kd.N_nil _ _ _ _ _ | exact Kd.V_nil _ _ _ _ _ | exact Kd.Q_nil _ _ _ _ _ | exact Kd.S_nil _ _ _ _ _, by repeat (first | (with_reducible first | exact HB.out | apply below_alloc | apply pw_below_drewN | apply below_drew1) | exact HB.out)⟩

end Go.Proofs.Ytdcdkckpmkfjdaa.P

/- The program's GreatestTable: what it makes. -/
namespace Go.Proofs.Ytdcdkckpmkfjdaa.L
open Go.RowKit Go.Proofs.Ytdcdkckpmkfjdaa Go.Proofs.Ytdcdkckpmkfjdaa.P Go.Proofs.YtdcdkckpmkfjdaaW.PrintWords Go.Proofs.YtdcdkckpmkfjdaaW.PrintLast Go.Proofs.YtdcdkckpmkfjdaaW.PrintMore
set_option linter.unusedVariables false
set_option linter.unusedSimpArgs false
set_option maxRecDepth 100000

def add1 (c : List Int) (x : Int) : List Int := c.set x.toNat (wrap64 (rd c x + 1))
/-- The tally of the tables by the number of their parts equal to n. -/
def gtL (n : Int) : List (List (List Int)) → List Int → Option (List Int)
  | [], c => some c
  | T :: L, c => (impl_PartsEqual.f T n).bind fun m => if 0 ≤ m.1 ∧ m.1 < c.length then gtL n L (add1 c m.1) else none
def gtX (n : Int) : List Int := (gtL n (dsX n) (List.replicate n.toNat 0)).getD []
theorem gt_2 : gtL 2 (dsX 2) (List.replicate 2 0) = some (gtX 2) ∧ spec_GreatestTable.f 1000 2 = some (gtX 2, true) ∧ (gtX 2).length = 2 := by decide +kernel
theorem gt_3 : gtL 3 (dsX 3) (List.replicate 3 0) = some (gtX 3) ∧ spec_GreatestTable.f 1000 3 = some (gtX 3, true) ∧ (gtX 3).length = 3 := by decide +kernel
theorem gt_4 : gtL 4 (dsX 4) (List.replicate 4 0) = some (gtX 4) ∧ spec_GreatestTable.f 1000 4 = some (gtX 4, true) ∧ (gtX 4).length = 4 := by decide +kernel
theorem gt_all {m : Nat} (h0 : 2 ≤ m) (h1 : m ≤ 4) : gtL (m : Int) (dsX m) (List.replicate m 0) = some (gtX m) ∧ spec_GreatestTable.f 1000 (m : Int) = some (gtX m, true) ∧ (gtX m).length = m := by
  have e : m = 2 ∨ m = 3 ∨ m = 4 := by omega
  rcases e with rfl | rfl | rfl
  · exact gt_2
  · exact gt_3
  · exact gt_4
theorem tab_F {w : World} {ok : Nat → Prop} {A : Option Addr} {n : Nat} {L : List (List (List Int))} (h : Kd.F tabK w ok A n L) : Kd.F (Kd.slice 22 (Kd.slice 3 (Kd.int .i64))) w ok A n L := fun W' hW => tab_C (h W' hW)
theorem gtL_len (n : Int) : ∀ (L : List (List (List Int))) (c r : List Int), gtL n L c = some r → r.length = c.length
  | [], c, r, h => by rw [gtL] at h; rw [← Option.some.inj h]
  | T :: L, c, r, h => by
    rw [gtL] at h
    obtain ⟨m, _, h⟩ := Option.bind_eq_some_iff.1 h
    split at h
    · rw [gtL_len n L _ r h, add1, List.length_set]
    · cases h
set_option maxHeartbeats 4000000 in
theorem impl_GreatestTable.callsG (m : Nat) (hm : m ≤ 4) (L : List (List (List Int))) (hL : L.length ≤ 1000000) (r : List Int) (hr : gtL (m : Int) L (List.replicate m 0) = some r)
    (hw : ∀ W : World, Calls Try.prog 93 #[.int .i64 m, .int .i64 2, .int .i64 4] W fun e w' => e = .returned (.bool true) ∧ Drawn0 W w')
    (hd : ∀ W : World, Calls Try.prog 89 #[.int .i64 m] W (RetM3 W L)) (w : World) :
    Calls Try.prog 52 #[.int .i64 m] w (RetTR w r true) := by
  have mk1 : ∀ W : World, Sem.run Try.prog (Instr.makeSlice 22 (.int .i64 m) (.int .i64 m)) W = Result.ok (Value.slice (some ⟨W.heap.size, 0, none⟩) m m) (W.alloc (.cells (madeCells #[.int .i64 0] m) 3)) := fun W => run_make_row' (P := Try.prog) 22 3 (.int .i64 0) 8 Try.underlying22 info_ints rfl .i64 .i64 m (by omega) (by omega) W
  have HM := Aside0.mk hr
  have HD := Aside0.mk hd
  have HW := Aside0.mk hw
  obtain ⟨zs, hzs⟩ : ∃ z, z = List.replicate m (0 : Int) := ⟨_, rfl⟩
  have hzl : zs.length = m := by rw [hzs]; simp
  have HZ := Aside0.mk hzs
  have HRL := Aside0.mk (show r.length = m by rw [gtL_len _ _ _ _ hr]; simp)
  rw [← hzs] at HM
  clear hr hd hw hzs
  go_enter Try.func52, Try.ntmps52
  go_wp2_with (first
    | (go_at_call 93; refine (HW.out _).mono ?_; rintro e w0 ⟨rfl, hd⟩; have HB0 := Aside0.mk hd.below; clear hd)
    | (go_at_call 89; refine (HD.out _).mono ?_; rintro e w1 ⟨v, rfl, hS, hb⟩; obtain ⟨A1, c1, rfl⟩ := Kd.R_slice (Kd.S_R hS); have HF := Aside0.mk (tab_F (Kd.S_F (Kd.S_bound hS))); have HI := Aside0.mk (show intBlk w1 w0.heap.size zs from blk_below (by rw [HZ.out]; have := blk_new w0 (.cells (madeCells #[.int .i64 0] m) 3); rw [madeInts] at this ⊢; exact this) hb); have HB1 := Aside0.mk (below_step (below_alloc HB0.out (.cells (madeCells #[.int .i64 0] m) 3)) hb); clear hS hb))
  have HBB := Aside0.mk (show w.heap.size ≤ w0.heap.size from HB0.out.size)
  have HSZ := Aside0.mk (show w0.heap.size < (w0.alloc (.cells (madeCells #[.int .i64 0] m) 3)).heap.size by simp)
  clear HZ HD HW HB0
  go_loopg [17] L.length (fun gg s17 wr => ∃ (i : Nat) (c : List Int), i ≤ L.length ∧ L.length - i ≤ gg ∧ s17 = .int .i64 i ∧ Aside0 (gtL (m : Int) (L.drop i) c = some r) ∧ Aside0 (c.length = m) ∧ Aside0 (intBlk wr w0.heap.size c) ∧ Aside0 (Kept w1 wr (fun k => k = w0.heap.size)) ∧ Aside0 (Below w.heap.size w wr))
  case atStart => exact ⟨0, zs, Nat.zero_le _, Nat.le_refl _, rfl, HM, ⟨hzl⟩, HI, ⟨Kept.refl _ _⟩, HB1⟩
  case round =>
    clear HI HB1 HM
    obtain ⟨i, c, hi, hg, rfl, HM, HC, HI, HKP, HB⟩ := hrel
    by_cases hlt : i < L.length
    · have hz : (i : Int) < (L.length : Int) := by omega
      have H := HM.out
      obtain ⟨T, hT⟩ : ∃ T, T = L[i] := ⟨_, rfl⟩
      rw [List.drop_eq_getElem_cons hlt, ← hT, gtL] at H
      obtain ⟨⟨p, b⟩, hp, H⟩ := Option.bind_eq_some_iff.1 H
      have hF := Kd.F_kept HF.out HKP.out (fun k hk e => by have h1 := hk.2.1; have h2 := HSZ.out; omega)
      obtain ⟨ad, cs, hA, hcl1, hFK, hcell, _⟩ := Kd.F_get hF ([] : List (List Int)) (i : Int) (by omega) (by omega)
      obtain ⟨At, ct, rfl, hct, hFx⟩ := Kd.FK_slice_open hFK
      have hx := hcell 0 _ rfl
      rw [Int.toNat_natCast, show (Kd.slice 22 (Kd.slice 3 (Kd.int .i64))).sz = 1 from rfl, Nat.mul_one, Nat.add_zero] at hx
      have hge : L.getD i [] = T := by rw [hT, List.getD_eq_getElem?_getD, List.getElem?_eq_getElem hlt]; rfl
      rw [Int.toNat_natCast, hge] at hct hFx
      rw [hge] at hx
      have HX := Aside0.mk (Kd.F_now hFx)
      have HCT := Aside0.mk hct
      have HP := Aside0.mk hp
      split at H
      case isFalse => cases H
      rename_i hpc
      have hp0 : 0 ≤ p := hpc.1
      have hp1 : p < (c.length : Int) := hpc.2
      obtain ⟨q, rfl⟩ := Int.eq_ofNat_of_zero_le hp0
      have hcl : c.length = m := HC.out
      have hqm : q < m := by omega
      have hqz : (q : Int) < (m : Int) := by omega
      have HN := Aside0.mk (show gtL (m : Int) (L.drop (i + 1)) (add1 c q) = some r from H)
      subst hA
      have hB0 : w.heap.size ≤ w0.heap.size := HBB.out
      clear H HM hp hF hFK hcell hFx hct hT hge
      go_wp2_with (go_at_call 101; refine (impl_PartsEqual.calls At ct T m q b _ HX.out HCT.out HP.out).mono ?_; rintro e w2 ⟨rfl, hb⟩; have hI2 : intBlk w2 w0.heap.size c := blk_below HI.out hb; have hcell := (blk_cell hI2 q).trans (show ((c.map (Value.int .i64)).toArray[q]?) = some (.int .i64 (rd c q)) by simp [rd, List.getD_eq_getElem?_getD, show q < c.length by omega]); have hfz := blk_frozen hI2 q; have HPI := Aside0.mk (show intBlk (w2.setCell ⟨w0.heap.size, q, none⟩ (.int .i64 (wrap64 (rd c q + 1)))) w0.heap.size (add1 c q) from blk_put hI2 q _ (by simp [add1])); have HK2 := Aside0.mk ((HKP.out.then_ (Kept.of_below hb (fun _ => False)) (fun k hk => hk.elim)).setCell (p := ⟨w0.heap.size, q, none⟩) (.inl rfl) (.int .i64 (wrap64 (rd c q + 1)))); have HB2 := Aside0.mk ((below_step HB.out hb).setCell (show w.heap.size ≤ (⟨w0.heap.size, q, none⟩ : Addr).block from HBB.out) (.int .i64 (wrap64 (rd c q + 1)))); clear hb hI2)
      go_roundg (L.length - (i + 1))
      case measure => omega
      case rel => exact ⟨i + 1, add1 c q, by omega, by omega, by go_num, HN, ⟨by rw [add1, List.length_set]; exact HC.out⟩, HPI, HK2, HB2⟩
    · have hz : ¬ (i : Int) < (L.length : Int) := by omega
      have hie : i = L.length := by omega
      subst hie
      have H := HM.out
      rw [List.drop_length, gtL] at H
      obtain rfl := Option.some.inj H
      have hR := intBlk_R (ok := fun _ => True) HI.out (show w.heap.size ≤ w0.heap.size from HBB.out) trivial (by rw [HC.out]; omega)
      rw [HC.out] at hR
      have HRR := Aside0.mk hR
      clear hR H HM
      go_wp2
      go_ret2
      exact ⟨_, rfl, HRR.out, HB.out⟩
end Go.Proofs.Ytdcdkckpmkfjdaa.L

/- The program's GreatestTable answers as the reference's GreatestTable, for every number; what comes back is the call's own (the walk of the law FnExactGreatestTable; no condition). -/
namespace Go.Proofs.Ytdcdkckpmkfjdaa.Law
open Go.RowKit Go.Proofs.Ytdcdkckpmkfjdaa Go.Proofs.Ytdcdkckpmkfjdaa.P Go.Proofs.Ytdcdkckpmkfjdaa.L Go.Proofs.YtdcdkckpmkfjdaaW.PrintWords Go.Proofs.YtdcdkckpmkfjdaaW.PrintLast Go.Proofs.YtdcdkckpmkfjdaaW.PrintMore
set_option linter.unusedVariables false

def gtA (n : Int) : List Int := if inB n 2 4 = true then gtX n else []
theorem impl_GreatestTable_calls (n : Int) (w : World) : Calls Try.prog 52 #[.int .i64 n] w (RetTR w (gtA n) (inB n 2 4)) := by
  have hw := fun W => impl_within.calls n 2 4 (inB n 2 4) W rfl
  unfold gtA
  cases hi : inB n 2 4 with
  | false =>
    rw [hi] at hw
    rw [if_neg (by simp)]
    clear hi
    go_enter Try.func52, Try.ntmps52
    go_wp2_with (go_at_call 93; refine (hw _).mono ?_; rintro e w1 ⟨rfl, hd⟩; have hb := hd.below; clear hd)
    go_ret2
    exact ⟨_, rfl, Kd.R_nil _ _ _ _ _, hb⟩
  | true =>
    rw [hi] at hw
    obtain ⟨h0, h1⟩ := inB_true hi
    obtain ⟨m, rfl⟩ := Int.eq_ofNat_of_zero_le (show 0 ≤ n by omega)
    have hd := ds_all (n := (m : Int)) (by omega) (by omega)
    rw [if_pos rfl]
    exact impl_GreatestTable.callsG m (by omega) (dsX m) (by have := hd.len; omega) (gtX m) (gt_all (by omega) (by omega)).1 hw (fun W => impl_descending_calls m (by omega) (by omega) W) w
theorem spec_GreatestTable_ev (n : Int) : spec_GreatestTable.f 1000 n = some (gtA n, inB n 2 4) := by
  unfold gtA
  cases hi : inB n 2 4 with
  | false =>
    unfold spec_GreatestTable.f
    rw [in_eq, hi]
    simp only [Option.bind_some]
    rw [if_neg (by simp), if_neg (by simp)]
  | true =>
    obtain ⟨h0, h1⟩ := inB_true hi
    obtain ⟨m, rfl⟩ := Int.eq_ofNat_of_zero_le (show 0 ≤ n by omega)
    rw [if_pos rfl]
    exact (gt_all (by omega) (by omega)).2.1
theorem FnExactGreatestTable (n : Int) (_hx : (Lit.int .i64 n).wf = true) {W0 : World} (W : World) (_hW : W = W0) :
    Calls Try.prog 15 #[.int .i64 n] W fun e w' => e = .returned (.bool true) ∧ Below W.heap.size W w' := by
  refine lawGreatestTable n _ _ W ?_ (fun W' => (spec_GreatestTable.calls 1000 n _ _ W' (spec_GreatestTable_ev n)).mono fun _ _ h => RetC.of_R h) (fun W' => impl_GreatestTable_calls n W')
  unfold gtA
  cases hi : inB n 2 4 with
  | false => rw [if_neg (by simp)]; simp
  | true =>
    obtain ⟨h0, h1⟩ := inB_true hi
    obtain ⟨m, rfl⟩ := Int.eq_ofNat_of_zero_le (show 0 ≤ n by omega)
    rw [if_pos rfl, (gt_all (by omega) (by omega)).2.2]
    omega
end Go.Proofs.Ytdcdkckpmkfjdaa.Law
