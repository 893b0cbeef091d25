/- The program's RowsBelow answers as the reference's RowsBelow, for every row; what comes back is the call's own, and the row stays as it was (the walk of the law FnExactRowsBelow; no condition). -/
import Derived.Test.YtdcdkckpmkfjdaaLA
import Derived.Test.YtdcdkckpmkfjdaaPx21
import Derived.Test.YtdcdkckpmkfjdaaPx33
import Derived.Test.YtdcdkckpmkfjdaaPx35
import Derived.Test.YtdcdkckpmkfjdaaPx103
import Derived.Test.YtdcdkckpmkfjdaaPx105
import Derived.Test.YtdcdkckpmkfjdaaUA
namespace Go.Proofs.Ytdcdkckpmkfjdaa.L
open Go.RowKit Go.Proofs.Ytdcdkckpmkfjdaa Go.Proofs.Ytdcdkckpmkfjdaa.P Go.Proofs.YtdcdkckpmkfjdaaW.PrintWords Go.Proofs.YtdcdkckpmkfjdaaW.PrintLast Go.Proofs.YtdcdkckpmkfjdaaW.PrintMore
set_option linter.unusedVariables false

/-- A row that lies in the blocks from a to b alone. -/
structure OwnR (B a b : Nat) (w : World) (v : Value) (T : List Int) : Prop where
  s : Kd.R (Kd.int .i64) 3 w B (Itv a b) v T
  lo : B ≤ a
  hi : b ≤ w.heap.size
theorem OwnR.new {B : Nat} {w w' : World} {v : Value} {T : List Int} (h : Kd.R (Kd.int .i64) 3 w' w.heap.size (fun _ => True) v T) (hB : B ≤ w.heap.size) : OwnR B w.heap.size w'.heap.size w' v T :=
  ⟨Kd.R_lower (Kd.R_mono (Kd.R_bound h) (fun _ hk => ⟨hk.2.1, hk.2.2.1⟩)) hB, hB, Nat.le_refl _⟩
theorem OwnR.below {B a b : Nat} {w w' : World} {v : Value} {T : List Int} (h : OwnR B a b w v T) (hb : Below w.heap.size w w') : OwnR B a b w' v T :=
  ⟨Kd.R_kept h.s (Kept.of_below hb (fun _ => False)) (fun _ _ h => h), h.lo, Nat.le_trans h.hi hb.size⟩
theorem OwnR.kept {B a b c d : Nat} {w w' : World} {v : Value} {T : List Int} (h : OwnR B a b w v T) (hk : Kept w w' (Itv c d)) (hd : b ≤ c ∨ d ≤ a) : OwnR B a b w' v T :=
  ⟨Kd.R_kept h.s hk (fun k h1 h2 => by have := h1.1; have := h1.2; have := h2.1; have := h2.2; omega), h.lo, Nat.le_trans h.hi hk.1⟩
theorem OwnR.slice {B a b : Nat} {w : World} {v : Value} {T : List Int} (h : OwnR B a b w v T) : ∃ A c, v = .slice A T.length c ∧ T.length ≤ c := by
  obtain ⟨A, c, rfl⟩ := Kd.R_slice h.s
  exact ⟨A, c, rfl, (Kd.R_reads' h.s).2.1⟩
theorem OwnR.reads {B a b n c : Nat} {A : Option Addr} {w : World} {T : List Int} (h : OwnR B a b w (.slice A n c) T) : Kd.C (Kd.int .i64) w A T.length T := (Kd.R_reads' h.s).2.2
theorem OwnR.reads' {B a b n c m : Nat} {A : Option Addr} {w : World} {T : List Int} (h : OwnR B a b w (.slice A n c) T) (e : T.length = m) : Kd.C (Kd.int .i64) w A m T := e ▸ h.reads
/-- Marking. -/
theorem mark_ownR {B a b : Nat} {v : Value} {T : List Int} {W w : World} (hW : W.heap.size = B) (hB : Below B W w) (h : OwnR B a b w v T) (hf : T.length ≤ 1048576) :
    Calls Try.prog 20 #[v, .int .i64 1] w fun e w' => e = .returned (.int .i64 (1 + T.length : Nat)) ∧ OwnR B a b w' v (numR T.length 1) ∧ Below B W w' ∧ Kept w w' (Itv a b) := by
  subst hW
  obtain ⟨k, hk⟩ := (markIntS_ev T 1 (by omega)).rounds
  refine (laws_markIntS.calls k (Itv a b) v T (1 : Nat) _ _ W w hB h.s hk).mono ?_
  rintro e w' ⟨h1, h2, h3, h4⟩
  exact ⟨h1, ⟨Kd.R_flat (fun h => h) h2 (fun k hk _ => h.s.1 k hk), h.lo, Nat.le_trans h.hi h4.1⟩, h3, h4⟩
theorem eqIntS_ev (l : List Int) (hl : l.length ≤ 1048576) : Ev (fun k => laws_eqIntS.f k l l) true := by
  unfold laws_eqIntS.f
  exact Ev.ite_pos rfl (eqIntS_l0 l (by omega) l.length 0 (by omega))
end Go.Proofs.Ytdcdkckpmkfjdaa.L

/- The walk of the law FnExactRowsBelow, out of contracts of the two functions. -/
namespace Go.Proofs.Ytdcdkckpmkfjdaa.Law
open Go.RowKit Go.Proofs.Ytdcdkckpmkfjdaa Go.Proofs.Ytdcdkckpmkfjdaa.P Go.Proofs.Ytdcdkckpmkfjdaa.L Go.Proofs.YtdcdkckpmkfjdaaW.PrintWords Go.Proofs.YtdcdkckpmkfjdaaW.PrintLast Go.Proofs.YtdcdkckpmkfjdaaW.PrintMore
set_option linter.unusedVariables false
set_option linter.unusedSimpArgs false

set_option maxHeartbeats 8000000 in
set_option maxRecDepth 100000 in
theorem walkRowsBelow (A : Option Addr) (cap : Nat) (l : List Int) (r : List (List Int)) (b : Bool) (W : World) (h : Kd.C (Kd.int .i64) W A l.length l) (hc : l.length ≤ cap) (hl : l.length ≤ 1048576) (hr : fewRows r)
    (hspec : ∀ (W' : World) (A' : Option Addr) (c' : Nat), Kd.C (Kd.int .i64) W' A' l.length l → l.length ≤ c' → Calls Try.prog 40 #[.slice A' l.length c'] W' (RetC (Kd.slice 3 (Kd.int .i64)) W' r b))
    (himpl : ∀ (W' : World) (A' : Option Addr) (c' : Nat), Kd.C (Kd.int .i64) W' A' l.length l → l.length ≤ c' → Calls Try.prog 41 #[.slice A' l.length c'] W' (RetTT W' r b)) :
    Calls Try.prog 11 #[.slice A l.length cap] W fun e w' => e = .returned (.bool true) ∧ Below W.heap.size W w' := by
  have HC := Aside0.mk h
  have HLE := Aside0.mk hc
  have HSP := Aside0.mk hspec
  have HIM := Aside0.mk himpl
  have HB := Aside0.mk (Below.refl W.heap.size W)
  have hgt : ¬ (1048576 : Int) < (l.length : Int) := by omega
  obtain ⟨ke, hke⟩ := (eqIntS_ev l hl).rounds
  obtain ⟨kr, hkr⟩ := (eqIntSS r hr.ok).rounds
  obtain ⟨kh, hkh⟩ := (heldIntSS_ev r 1 (by have := hr.1; omega) (few_n hr)).rounds
  have HTO := Aside0.mk (fun W' hb => laws_toIntS.calls A cap l l W' (Kd.C_below h hb) hc (toIntS_eq l (by omega)))
  have HEL := Aside0.mk (fun W' A0 c0 A1 c1 h0 g0 h1 g1 => laws_eqIntS.calls ke A0 c0 l A1 c1 l true W' h0 g0 h1 g1 hke)
  have HER := Aside0.mk (fun W' A0 c0 A1 c1 h0 g0 h1 g1 => laws_eqIntSS.calls kr A0 c0 r A1 c1 r true W' h0 g0 h1 g1 hkr)
  have HHE := Aside0.mk (fun W' A0 c0 h0 g0 => laws_heldIntSS.calls kh A0 c0 (markT r 1) 1 (nTo r 1 r.length : Nat) W' h0 g0 hkh)
  have HMX := Aside0.mk (fun (a b : Nat) (v : Value) (w : World) (hB : Below W.heap.size W w) (ho : OwnR W.heap.size a b w v l) => mark_ownR rfl hB ho hl)
  have HMG := Aside0.mk (fun (a b : Nat) (v : Value) (w : World) (hB : Below W.heap.size W w) (ho : Own W.heap.size a b w v r) => mark_own rfl hB ho hr)
  have hnl : ¬ ((1 + l.length : Nat) : Int) < 0 := by omega
  have hnr : ¬ ((nTo r 1 r.length : Nat) : Int) < 0 := by omega
  have hml : (markT r 1).length = r.length := markS_length _ _ _
  obtain ⟨nl, hnle⟩ : ∃ n, n = 1 + l.length := ⟨_, rfl⟩
  obtain ⟨nr, hnre⟩ : ∃ n, n = nTo r 1 r.length := ⟨_, rfl⟩
  rw [← hnle] at HMX hnl
  rw [← hnre] at HMG HHE hnr
  rw [hml] at HHE
  obtain ⟨mr, hmr⟩ : ∃ m, m = markT r 1 := ⟨_, rfl⟩
  rw [← hmr] at HMG HHE hml
  have HML := Aside0.mk hml
  clear h hc hl hr hspec himpl hke hkr hkh hnle hnre hmr hml
  go_enter Try.func11, Try.ntmps11
  go_wp2_with (first
    | (go_at_call 27; refine (HTO.out _ HB.out).mono ?_; rintro e w1 ⟨v, rfl, hS, hb⟩; have ho := OwnR.new hS HB.out.size; clear hS; obtain ⟨Av, cv, rfl, hcv⟩ := ho.slice; (try clear HT HTc); (try clear HDT); (try have HDT := Aside0.mk HW.out.hi); (try (have n_ := Aside0.mk (HW.out.below hb); clear HW; have HW := n_)); (try (have n_ := Aside0.mk (HX.out.below hb); clear HX; have HX := n_)); (try (have n_ := Aside0.mk (HG.out.below hb); clear HG; have HG := n_)); (try (have n_ := Aside0.mk (HT.out.below hb); clear HT; have HT := n_)); (try (have n_ := Aside0.mk (HG1.out.below hb); clear HG1; have HG1 := n_)); (have n_ := Aside0.mk (below_step HB.out hb)); clear HB; have HB := n_; clear hb; have HT := Aside0.mk ho; have HTc := Aside0.mk hcv; clear ho hcv)
    | (go_at_call 40; refine (HSP.out _ _ _ HT.out.reads HTc.out).mono ?_; rintro e w1 ⟨Aw, cw, rfl, hcw, hC, hb⟩; clear HT HTc; (try (have n_ := Aside0.mk (HW.out.below hb); clear HW; have HW := n_)); (try (have n_ := Aside0.mk (HX.out.below hb); clear HX; have HX := n_)); (try (have n_ := Aside0.mk (HG.out.below hb); clear HG; have HG := n_)); (try (have n_ := Aside0.mk (HT.out.below hb); clear HT; have HT := n_)); (try (have n_ := Aside0.mk (HG1.out.below hb); clear HG1; have HG1 := n_)); (have n_ := Aside0.mk (below_step HB.out hb)); clear HB; have HB := n_; have HW := Aside0.mk (Old.new heap_T hC); have HWc := Aside0.mk hcw; clear hb hC hcw)
    | (go_at_call 41; have hg_ := HG; clear hg_; refine (HIM.out _ _ _ HT.out.reads HTc.out).mono ?_; rintro e w1 ⟨v, rfl, hS, hb⟩; have ho := Own.new hS HB.out.size; clear hS; obtain ⟨Ah, ch, rfl, hch⟩ := ho.slice; clear HT HTc; (try (have n_ := Aside0.mk (HW.out.below hb); clear HW; have HW := n_)); (try (have n_ := Aside0.mk (HX.out.below hb); clear HX; have HX := n_)); (try (have n_ := Aside0.mk (HG.out.below hb); clear HG; have HG := n_)); (try (have n_ := Aside0.mk (HT.out.below hb); clear HT; have HT := n_)); (try (have n_ := Aside0.mk (HG1.out.below hb); clear HG1; have HG1 := n_)); (have n_ := Aside0.mk (below_step HB.out hb)); clear HB; have HB := n_; clear hb; have HG1 := Aside0.mk ho; have HG1c := Aside0.mk hch; clear ho hch)
    | (go_at_call 41; refine (HIM.out _ _ _ HT.out.reads HTc.out).mono ?_; rintro e w1 ⟨v, rfl, hS, hb⟩; have ho := Own.new hS HB.out.size; clear hS; obtain ⟨Ag, cg, rfl, hcg⟩ := ho.slice; have HD12 := HDT; have HD23 := Aside0.mk HT.out.hi; have HD13 := Aside0.mk HW.out.hi; clear HDT; have HX := HT; have HXc := HTc; clear HT HTc; (try (have n_ := Aside0.mk (HW.out.below hb); clear HW; have HW := n_)); (try (have n_ := Aside0.mk (HX.out.below hb); clear HX; have HX := n_)); (try (have n_ := Aside0.mk (HG.out.below hb); clear HG; have HG := n_)); (try (have n_ := Aside0.mk (HT.out.below hb); clear HT; have HT := n_)); (try (have n_ := Aside0.mk (HG1.out.below hb); clear HG1; have HG1 := n_)); (have n_ := Aside0.mk (below_step HB.out hb)); clear HB; have HB := n_; clear hb; have HG := Aside0.mk ho; have HGc := Aside0.mk hcg; clear ho hcg)
    | (go_at_call 33; (first | (with_reducible refine (HER.out _ _ _ _ _ HG.out.reads HGc.out HW.out.reads HWc.out).mono ?_) | (with_reducible refine (HER.out _ _ _ _ _ HG1.out.reads HG1c.out HW.out.reads HWc.out).mono ?_)); rintro e w1 ⟨rfl, hd⟩; have hb := hd.below; clear hd; (try (have n_ := Aside0.mk (HW.out.below hb); clear HW; have HW := n_)); (try (have n_ := Aside0.mk (HX.out.below hb); clear HX; have HX := n_)); (try (have n_ := Aside0.mk (HG.out.below hb); clear HG; have HG := n_)); (try (have n_ := Aside0.mk (HT.out.below hb); clear HT; have HT := n_)); (try (have n_ := Aside0.mk (HG1.out.below hb); clear HG1; have HG1 := n_)); (have n_ := Aside0.mk (below_step HB.out hb)); clear HB; have HB := n_; clear hb)
    | (go_at_call 19; (with_reducible refine (HEL.out _ _ _ _ _ HX.out.reads HXc.out HT.out.reads HTc.out).mono ?_); rintro e w1 ⟨rfl, hd⟩; have hb := hd.below; clear hd; (try (have n_ := Aside0.mk (HW.out.below hb); clear HW; have HW := n_)); (try (have n_ := Aside0.mk (HX.out.below hb); clear HX; have HX := n_)); (try (have n_ := Aside0.mk (HG.out.below hb); clear HG; have HG := n_)); (try (have n_ := Aside0.mk (HT.out.below hb); clear HT; have HT := n_)); (try (have n_ := Aside0.mk (HG1.out.below hb); clear HG1; have HG1 := n_)); (have n_ := Aside0.mk (below_step HB.out hb)); clear HB; have HB := n_; clear hb)
    | (go_at_call 20; (with_reducible refine (HMX.out _ _ _ _ HB.out HX.out).mono ?_); rintro e w1 ⟨rfl, ho, hb, hk⟩; have n1_ := Aside0.mk (HW.out.kept hk HD12.out); have n2_ := Aside0.mk (HG.out.kept hk (.inr HD23.out)); clear HW HG HX HXc HB ho hk HT HTc HEL; have HW := n1_; have HG := n2_; have HB := Aside0.mk hb; clear n1_ n2_ hb)
    | (go_at_call 34; (with_reducible refine (HMG.out _ _ _ _ HB.out HG.out).mono ?_); rintro e w1 ⟨rfl, ho, hb, hk⟩; have n1_ := Aside0.mk (HW.out.kept hk HD13.out); clear HW HG HB hk; have HW := n1_; have HG := Aside0.mk ho; have HB := Aside0.mk hb; clear n1_ hb ho)
    | (go_at_call 35; (with_reducible refine (HHE.out _ _ _ (HG.out.reads' HML.out) HGc.out).mono ?_); rintro e w1 ⟨rfl, hd⟩; have hb := hd.below; clear hd; (try (have n_ := Aside0.mk (HW.out.below hb); clear HW; have HW := n_)); (try (have n_ := Aside0.mk (HX.out.below hb); clear HX; have HX := n_)); (try (have n_ := Aside0.mk (HG.out.below hb); clear HG; have HG := n_)); (try (have n_ := Aside0.mk (HT.out.below hb); clear HT; have HT := n_)); (try (have n_ := Aside0.mk (HG1.out.below hb); clear HG1; have HG1 := n_)); (have n_ := Aside0.mk (below_step HB.out hb)); clear HB; have HB := n_; clear hb))
  go_ret
  exact ⟨rfl, HB.out⟩
theorem skipRowsBelow (A : Option Addr) (cap : Nat) (l : List Int) (W : World) (hl : ¬ l.length ≤ 1048576) :
    Calls Try.prog 11 #[.slice A l.length cap] W fun e w' => e = .returned (.bool true) ∧ Below W.heap.size W w' := by
  have hgt : (1048576 : Int) < (l.length : Int) := by omega
  go_enter Try.func11, Try.ntmps11
  go_wp2
  go_ret
  exact ⟨rfl, Below.refl _ _⟩
end Go.Proofs.Ytdcdkckpmkfjdaa.Law

namespace Go.Proofs.Ytdcdkckpmkfjdaa.L
open Go.RowKit Go.Proofs.Ytdcdkckpmkfjdaa Go.Proofs.Ytdcdkckpmkfjdaa.P Go.Proofs.YtdcdkckpmkfjdaaW.PrintWords Go.Proofs.YtdcdkckpmkfjdaaW.PrintLast Go.Proofs.YtdcdkckpmkfjdaaW.PrintMore

theorem l1In_eq (a b c : Int) : spec_l1In.f a b c = some (inB a b c) := by
  unfold spec_l1In.f inB
  by_cases h : a ≥ b
  · rw [if_pos h]; simp [show b ≤ a from h]
  · rw [if_neg h]; simp [show ¬ b ≤ a from h]
theorem l1All_l0 (l : List Int) (a b : Int) (hl : l.length ≤ 17592186044416) : ∀ (d i : Nat), i + d = l.length → Ev (fun k => spec_l1All.l0 k a b l l.length i) ((l.drop i).all fun x => inB x a b) := by
  intro d
  induction d with
  | zero =>
    intro i hi
    refine Ev.step (fun k => by rw [spec_l1All.l0]) ?_
    rw [List.drop_eq_nil_of_le (by omega)]
    exact Ev.ite_neg (by omega) (Ev.now _)
  | succ d ih =>
    intro i hi
    refine Ev.step (fun k => by rw [spec_l1All.l0]) ?_
    refine Ev.ite_pos (by omega) (Ev.ite_pos (by omega) (Ev.ite_pos (by omega) ?_))
    rw [l1In_eq, rd_at l i (by omega), List.drop_eq_getElem_cons (by omega), List.all_cons]
    simp only [Option.bind_some]
    cases h : inB l[i] a b with
    | true =>
      refine Ev.ite_pos rfl ?_
      rw [wrapS i (by omega), Bool.true_and]
      exact ih (i + 1) (by omega)
    | false => exact Ev.ite_neg (by simp) (Ev.now _)
theorem l1All_ev (l : List Int) (a b : Int) (hl : l.length ≤ 17592186044416) : Ev (fun k => spec_l1All.f k l a b) (l.all fun x => inB x a b) := l1All_l0 l a b hl l.length 0 (by omega)

/-- From place i on no number is greater than the one before. -/
def noninc (r : List Int) (i : Nat) : Bool := (List.range' i (r.length - i)).all fun z => decide (rd r z ≤ rd r ((z - 1 : Nat) : Int))
theorem noninc_end (r : List Int) (i : Nat) (h : r.length ≤ i) : noninc r i = true := by unfold noninc; rw [show r.length - i = 0 by omega]; rfl
theorem noninc_step (r : List Int) (i : Nat) (h : i < r.length) : noninc r i = (decide (rd r i ≤ rd r ((i - 1 : Nat) : Int)) && noninc r (i + 1)) := by
  unfold noninc
  obtain ⟨m, hm⟩ : ∃ m, r.length - i = m + 1 := ⟨r.length - i - 1, by omega⟩
  rw [hm, show r.length - (i + 1) = m by omega, List.range'_succ, List.all_cons]
/-- Parts that can be a row. -/
def rowGood (n : Int) (r : List Int) : Bool := decide (0 < r.length) && ((r.all fun x => inB x 1 n) && (decide ((r.length : Int) < rd r 0) && noninc r 1))
theorem all_rd {r : List Int} {a b : Int} (h : (r.all fun x => inB x a b) = true) (i : Nat) (hi : i < r.length) : a ≤ rd r i ∧ rd r i ≤ b := by
  rw [rd_at r i hi]
  exact (inB_iff _ _ _).1 (List.all_eq_true.1 h _ (List.getElem_mem hi))
theorem rowGood_facts {n : Int} {r : List Int} (h : rowGood n r = true) : 0 < r.length ∧ (r.length : Int) < n ∧ (r.all fun x => inB x 1 n) = true ∧ (r.length : Int) < rd r 0 := by
  simp only [rowGood, Bool.and_eq_true] at h
  have h1 := of_decide_eq_true h.1
  have h3 := of_decide_eq_true h.2.2.1
  have h2 := all_rd h.2.1 0 h1
  simp only [Int.natCast_zero] at h2
  have : rd r ((0 : Nat) : Int) = rd r 0 := rfl
  exact ⟨h1, by omega, h.2.1, h3⟩

theorem dpRow_l0 (r : List Int) (hl : r.length ≤ 17592186044416) : ∀ (d i : Nat), 1 ≤ i → r.length - i ≤ d → Ev (fun k => spec_dpRow.l0 k r i) (noninc r i) := by
  intro d
  induction d with
  | zero =>
    intro i h1 hi
    refine Ev.step (fun k => by rw [spec_dpRow.l0]) ?_
    rw [noninc_end r i (by omega)]
    exact Ev.ite_neg (by omega) (Ev.now _)
  | succ d ih =>
    intro i h1 hi
    refine Ev.step (fun k => by rw [spec_dpRow.l0]) ?_
    by_cases hlt : i < r.length
    · rw [wrapP i h1 (by omega), noninc_step r i hlt]
      refine Ev.ite_pos (by omega) (Ev.ite_pos (by omega) (Ev.ite_pos (by omega) (Ev.ite_pos (by omega) ?_)))
      by_cases hq : rd r i > rd r ((i - 1 : Nat) : Int)
      · refine Ev.ite_pos hq ?_
        rw [decide_eq_false (by omega)]
        exact Ev.now _
      · refine Ev.ite_neg hq ?_
        rw [decide_eq_true (by omega), Bool.true_and, wrapS i (by omega)]
        exact ih (i + 1) (by omega) (by omega)
    · rw [noninc_end r i (by omega)]
      exact Ev.ite_neg (by omega) (Ev.now _)
theorem dpRow_j0 (r : List Int) (b : Bool) (hl : r.length ≤ 17592186044416) : Ev (fun k => spec_dpRow.j0 k r b) (!b && noninc r 1) := by
  refine Ev.step (fun k => by rw [spec_dpRow.j0]) ?_
  cases b with
  | true => exact Ev.ite_pos rfl (Ev.now _)
  | false => exact Ev.ite_neg (by simp) (dpRow_l0 r hl r.length 1 (by omega) (by omega))
theorem dpRow_ev (r : List Int) (n : Int) (hl : r.length ≤ 17592186044416) : Ev (fun k => spec_dpRow.f k r n) (rowGood n r) := by
  unfold spec_dpRow.f
  by_cases h0 : (r.length : Int) = 0
  · refine Ev.ite_pos h0 ?_
    have : rowGood n r = false := by unfold rowGood; rw [decide_eq_false (by omega)]; rfl
    rw [this]
    exact dpRow_j0 r true hl
  · refine Ev.ite_neg h0 ?_
    by_cases h1 : (r.length : Int) ≥ n
    · refine Ev.ite_pos h1 ?_
      have : rowGood n r = false := by
        cases hg : rowGood n r with
        | false => rfl
        | true => have := (rowGood_facts hg).2.1; omega
      rw [this]
      exact dpRow_j0 r true hl
    · refine Ev.ite_neg h1 (Ev.bind (l1All_ev r 1 n hl) ?_)
      unfold rowGood
      rw [decide_eq_true (show 0 < r.length by omega), Bool.true_and]
      cases h2 : (r.all fun x => inB x 1 n) with
      | false => exact Ev.ite_neg (by simp) (dpRow_j0 r true hl)
      | true =>
        refine Ev.ite_pos rfl (Ev.ite_pos (by omega) ?_)
        have := dpRow_j0 r (decide (rd r 0 ≤ (r.length : Int))) hl
        rw [show (!decide (rd r 0 ≤ (r.length : Int))) = decide ((r.length : Int) < rd r 0) from by by_cases hq : rd r 0 ≤ (r.length : Int) <;> simp [hq] <;> omega] at this
        rw [Bool.true_and]
        exact this
theorem descRow_l0 (r : List Int) (n : Int) (hl : r.length ≤ 17592186044416) : ∀ (d i : Nat), 1 ≤ i → r.length - i ≤ d → Ev (fun k => impl_isDescendedRow.l0 k r n i) (noninc r i && (decide (0 < r.length) && ((r.all fun x => inB x 1 n) && decide ((r.length : Int) < rd r 0)))) := by
  have fin : ∀ i, 1 ≤ i → r.length ≤ i → Ev (fun k => impl_isDescendedRow.l0 k r n i) (noninc r i && (decide (0 < r.length) && ((r.all fun x => inB x 1 n) && decide ((r.length : Int) < rd r 0)))) := by
    intro i h1 hi
    refine Ev.step (fun k => by rw [impl_isDescendedRow.l0]) ?_
    rw [noninc_end r i hi, Bool.true_and]
    refine Ev.ite_neg (by omega) ?_
    by_cases h0 : (r.length : Int) > 0
    · refine Ev.ite_pos h0 (Ev.some_bind rfl ?_)
      rw [decide_eq_true (show 0 < r.length by omega), Bool.true_and]
      cases h2 : (r.all fun x => inB x 1 n) with
      | false => exact Ev.ite_neg (by simp) (Ev.now _)
      | true => exact Ev.ite_pos rfl (Ev.ite_pos (by omega) (Ev.now _))
    · refine Ev.ite_neg h0 ?_
      rw [decide_eq_false (show ¬ 0 < r.length by omega)]
      exact Ev.now _
  intro d
  induction d with
  | zero => intro i h1 hi; exact fin i h1 (by omega)
  | succ d ih =>
    intro i h1 hi
    by_cases hlt : i < r.length
    · refine Ev.step (fun k => by rw [impl_isDescendedRow.l0]) ?_
      rw [wrapP i h1 (by omega), noninc_step r i hlt]
      refine Ev.ite_pos (by omega) (Ev.ite_pos (by omega) (Ev.ite_pos (by omega) (Ev.ite_pos (by omega) ?_)))
      by_cases hq : rd r i > rd r ((i - 1 : Nat) : Int)
      · refine Ev.ite_pos hq ?_
        rw [decide_eq_false (show ¬ rd r i ≤ rd r ((i - 1 : Nat) : Int) by omega)]
        exact Ev.now _
      · refine Ev.ite_neg hq ?_
        rw [decide_eq_true (show rd r i ≤ rd r ((i - 1 : Nat) : Int) by omega), Bool.true_and, wrapS i (by omega)]
        exact ih (i + 1) (by omega) (by omega)
    · exact fin i h1 (by omega)
theorem descRow_ev (r : List Int) (n : Int) (hl : r.length ≤ 17592186044416) : Ev (fun k => impl_isDescendedRow.f k r n) (rowGood n r) := by
  unfold impl_isDescendedRow.f
  have h := descRow_l0 r n hl r.length 1 (by omega) (by omega)
  have e : (noninc r 1 && (decide (0 < r.length) && ((r.all fun x => inB x 1 n) && decide ((r.length : Int) < rd r 0)))) = rowGood n r := by
    unfold rowGood
    cases noninc r 1 <;> cases decide (0 < r.length) <;> cases (r.all fun x => inB x 1 n) <;> simp
  rw [e] at h
  exact h

/-- From place i on each number is less than the one above and to the right. -/
def under (a r : List Int) (i : Nat) : Bool := (List.range' i (r.length - i)).all fun z => decide (rd r z < rd a ((z + 1 : Nat) : Int))
theorem under_end (a r : List Int) (i : Nat) (h : r.length ≤ i) : under a r i = true := by unfold under; rw [show r.length - i = 0 by omega]; rfl
theorem under_step (a r : List Int) (i : Nat) (h : i < r.length) : under a r i = (decide (rd r i < rd a ((i + 1 : Nat) : Int)) && under a r (i + 1)) := by
  unfold under
  obtain ⟨m, hm⟩ : ∃ m, r.length - i = m + 1 := ⟨r.length - i - 1, by omega⟩
  rw [hm, show r.length - (i + 1) = m by omega, List.range'_succ, List.all_cons]
/-- Row r can stand below row a. -/
def belowB (a r : List Int) : Bool := decide (r.length < a.length) && (decide (rd r 0 ≤ (a.length : Int)) && under a r 0)

theorem dpBelow_l0 (a r : List Int) (hl : r.length ≤ 17592186044416) (hlt : r.length < a.length) : ∀ (d i : Nat), i + d = r.length → Ev (fun k => spec_dpBelow.l0 k a r r.length i) (under a r i) := by
  intro d
  induction d with
  | zero =>
    intro i hi
    refine Ev.step (fun k => by rw [spec_dpBelow.l0]) ?_
    rw [under_end a r i (by omega)]
    exact Ev.ite_neg (by omega) (Ev.now _)
  | succ d ih =>
    intro i hi
    refine Ev.step (fun k => by rw [spec_dpBelow.l0]) ?_
    rw [wrapS i (by omega), under_step a r i (by omega)]
    refine Ev.ite_pos (by omega) (Ev.ite_pos (by omega) (Ev.ite_pos (by omega) (Ev.ite_pos (by omega) (Ev.ite_pos (by omega) ?_))))
    by_cases hq : rd r i ≥ rd a ((i + 1 : Nat) : Int)
    · refine Ev.ite_pos hq ?_
      rw [decide_eq_false (by omega)]
      exact Ev.now _
    · refine Ev.ite_neg hq ?_
      rw [decide_eq_true (by omega), Bool.true_and]
      exact ih (i + 1) (by omega)

theorem stands_l0 (a r : List Int) (hl : r.length ≤ 17592186044416) (hlt : r.length < a.length) : ∀ (d i : Nat), i + d = r.length → Ev (fun k => impl_standsBelow.l0 k a r r.length i) (under a r i) := by
  intro d
  induction d with
  | zero =>
    intro i hi
    refine Ev.step (fun k => by rw [impl_standsBelow.l0]) ?_
    rw [under_end a r i (by omega)]
    exact Ev.ite_neg (by omega) (Ev.now _)
  | succ d ih =>
    intro i hi
    refine Ev.step (fun k => by rw [impl_standsBelow.l0]) ?_
    rw [wrapS i (by omega), under_step a r i (by omega)]
    refine Ev.ite_pos (by omega) (Ev.ite_pos (by omega) (Ev.ite_pos (by omega) (Ev.ite_pos (by omega) (Ev.ite_pos (by omega) ?_))))
    by_cases hq : rd r i ≥ rd a ((i + 1 : Nat) : Int)
    · refine Ev.ite_pos hq ?_
      rw [decide_eq_false (by omega)]
      exact Ev.now _
    · refine Ev.ite_neg hq ?_
      rw [decide_eq_true (by omega), Bool.true_and]
      exact ih (i + 1) (by omega)

theorem dpBelow_ev (a r : List Int) (hl : r.length ≤ 17592186044416) (h0 : 0 < r.length) : Ev (fun k => spec_dpBelow.f k r a) (belowB a r) := by
  have j : ∀ b : Bool, (b = false → r.length < a.length) → Ev (fun k => spec_dpBelow.j0 k r a b) (!b && under a r 0) := by
    intro b hb
    refine Ev.step (fun k => by rw [spec_dpBelow.j0]) ?_
    cases b with
    | true => exact Ev.ite_pos rfl (Ev.now _)
    | false => exact Ev.ite_neg (by simp) (dpBelow_l0 a r hl (hb rfl) r.length 0 (by omega))
  unfold spec_dpBelow.f belowB
  by_cases h1 : (r.length : Int) ≥ (a.length : Int)
  · refine Ev.ite_pos h1 ?_
    rw [decide_eq_false (show ¬ r.length < a.length by omega)]
    exact j true (by simp)
  · refine Ev.ite_neg h1 (Ev.ite_pos (by omega) ?_)
    rw [decide_eq_true (show r.length < a.length by omega), Bool.true_and]
    have := j (decide (rd r 0 > (a.length : Int))) (fun _ => by omega)
    rw [show (!decide (rd r 0 > (a.length : Int))) = decide (rd r 0 ≤ (a.length : Int)) from by by_cases hq : rd r 0 ≤ (a.length : Int) <;> simp [hq] <;> omega] at this
    exact this
theorem stands_ev (a r : List Int) (hl : r.length ≤ 17592186044416) (h0 : 0 < r.length) : Ev (fun k => impl_standsBelow.f k a r) (belowB a r) := by
  have j : ∀ b : Bool, (b = false → r.length < a.length) → Ev (fun k => impl_standsBelow.j0 k a r b) (!b && under a r 0) := by
    intro b hb
    refine Ev.step (fun k => by rw [impl_standsBelow.j0]) ?_
    cases b with
    | true => exact Ev.ite_pos rfl (Ev.now _)
    | false => exact Ev.ite_neg (by simp) (stands_l0 a r hl (hb rfl) r.length 0 (by omega))
  unfold impl_standsBelow.f belowB
  refine Ev.ite_pos (by omega) ?_
  by_cases h1 : rd r 0 > (a.length : Int)
  · refine Ev.ite_pos h1 ?_
    rw [decide_eq_false (show ¬ rd r 0 ≤ (a.length : Int) by omega), Bool.false_and, Bool.and_false]
    exact j true (by simp)
  · refine Ev.ite_neg h1 ?_
    rw [decide_eq_true (show rd r 0 ≤ (a.length : Int) by omega), Bool.true_and]
    have := j (decide ((r.length : Int) ≥ (a.length : Int))) (fun h => by have := of_decide_eq_false h; omega)
    rw [show (!decide ((r.length : Int) ≥ (a.length : Int))) = decide (r.length < a.length) from by by_cases hq : r.length < a.length <;> simp [hq] <;> omega] at this
    exact this

/-- From row i on all rows are right. -/
def goodFrom (n : Int) (l : List (List Int)) (i : Nat) : Bool := (List.range' i (l.length - i)).all fun z => rowGood n (l.getD z []) && (decide (z = 0) || belowB (l.getD (z - 1) []) (l.getD z []))
theorem goodFrom_end (n : Int) (l : List (List Int)) (i : Nat) (h : l.length ≤ i) : goodFrom n l i = true := by unfold goodFrom; rw [show l.length - i = 0 by omega]; rfl
theorem goodFrom_step (n : Int) (l : List (List Int)) (i : Nat) (h : i < l.length) : goodFrom n l i = ((rowGood n (l.getD i []) && (decide (i = 0) || belowB (l.getD (i - 1) []) (l.getD i []))) && goodFrom n l (i + 1)) := by
  unfold goodFrom
  obtain ⟨m, hm⟩ : ∃ m, l.length - i = m + 1 := ⟨l.length - i - 1, by omega⟩
  rw [hm, show l.length - (i + 1) = m by omega, List.range'_succ, List.all_cons]
/-- The rows are a descending plane partition for n. -/
def isDesc (n : Int) (l : List (List Int)) : Bool := goodFrom n l 0

theorem specGood_l0 (n : Int) (l : List (List Int)) (hl : rowsOk l) : ∀ (d i : Nat), i + d = l.length → Ev (fun k => spec_dpGood.l0 k l n l l.length i) (goodFrom n l i) := by
  have hl1 := hl.1
  intro d
  induction d with
  | zero =>
    intro i hi
    refine Ev.step (fun k => by rw [spec_dpGood.l0]) ?_
    rw [goodFrom_end n l i (by omega)]
    exact Ev.ite_neg (by omega) (Ev.now _)
  | succ d ih =>
    intro i hi
    refine Ev.step (fun k => by rw [spec_dpGood.l0]) ?_
    rw [goodFrom_step n l i (by omega), wrapS i (by omega), rd1_get]
    refine Ev.ite_pos (by omega) (Ev.ite_pos (by omega) (Ev.ite_pos (by omega) (Ev.bind (dpRow_ev (l.getD i []) n (hl.at_ i)) ?_)))
    cases hg : rowGood n (l.getD i []) with
    | false => exact Ev.ite_neg (by simp) (Ev.now _)
    | true =>
      refine Ev.ite_pos rfl ?_
      by_cases h0 : i = 0
      · subst h0
        refine Ev.ite_neg (by omega) ?_
        simp only [decide_true, Bool.true_or, Bool.true_and]
        exact ih (0 + 1) (by omega)
      · refine Ev.ite_pos (by omega) ?_
        rw [wrapP i (by omega) (by omega), rd1_get]
        refine Ev.ite_pos (by omega) (Ev.ite_pos (by omega) (Ev.bind (dpBelow_ev (l.getD (i - 1) []) (l.getD i []) (hl.at_ i) (rowGood_facts hg).1) ?_))
        rw [decide_eq_false h0, Bool.false_or, Bool.true_and]
        cases hb : belowB (l.getD (i - 1) []) (l.getD i []) with
        | false => exact Ev.ite_neg (by simp) (Ev.now _)
        | true =>
          refine Ev.ite_pos rfl ?_
          rw [Bool.true_and]
          exact ih (i + 1) (by omega)

theorem implGood_l0 (n : Int) (l : List (List Int)) (hl : rowsOk l) : ∀ (d i : Nat), i + d = l.length → Ev (fun k => impl_isDescending.l0 k l n l l.length i) (goodFrom n l i) := by
  have hl1 := hl.1
  intro d
  induction d with
  | zero =>
    intro i hi
    refine Ev.step (fun k => by rw [impl_isDescending.l0]) ?_
    rw [goodFrom_end n l i (by omega)]
    exact Ev.ite_neg (by omega) (Ev.now _)
  | succ d ih =>
    intro i hi
    refine Ev.step (fun k => by rw [impl_isDescending.l0]) ?_
    rw [goodFrom_step n l i (by omega), wrapS i (by omega), rd1_get]
    refine Ev.ite_pos (by omega) (Ev.ite_pos (by omega) (Ev.ite_pos (by omega) (Ev.bind (descRow_ev (l.getD i []) n (hl.at_ i)) ?_)))
    cases hg : rowGood n (l.getD i []) with
    | false => exact Ev.ite_neg (by simp) (Ev.now _)
    | true =>
      refine Ev.ite_pos rfl ?_
      by_cases h0 : i = 0
      · subst h0
        refine Ev.ite_neg (by omega) ?_
        simp only [decide_true, Bool.true_or, Bool.true_and]
        exact ih (0 + 1) (by omega)
      · refine Ev.ite_pos (by omega) ?_
        rw [wrapP i (by omega) (by omega), rd1_get]
        refine Ev.ite_pos (by omega) (Ev.ite_pos (by omega) (Ev.bind (stands_ev (l.getD (i - 1) []) (l.getD i []) (hl.at_ i) (rowGood_facts hg).1) ?_))
        rw [decide_eq_false h0, Bool.false_or, Bool.true_and]
        cases hb : belowB (l.getD (i - 1) []) (l.getD i []) with
        | false => exact Ev.ite_neg (by simp) (Ev.now _)
        | true =>
          refine Ev.ite_pos rfl ?_
          rw [Bool.true_and]
          exact ih (i + 1) (by omega)

theorem impl_isDesc_ev (n : Int) (l : List (List Int)) (hl : rowsOk l) : Ev (fun k => impl_isDescending.f k l n) (isDesc n l) := implGood_l0 n l hl l.length 0 (by omega)
theorem goodFrom_short (n : Int) (l : List (List Int)) : ∀ (d i : Nat), i + d = l.length → 1 ≤ i → 1 ≤ (l.getD (i - 1) []).length → ((l.getD (i - 1) []).length : Int) + i ≤ n → goodFrom n l i = true → (l.length : Int) ≤ n := by
  intro d
  induction d with
  | zero => intro i hi _ h1 h2 _; omega
  | succ d ih =>
    intro i hi h1 h2 h3 hg
    rw [goodFrom_step n l i (by omega), Bool.and_eq_true, Bool.and_eq_true, decide_eq_false (by omega), Bool.false_or] at hg
    obtain ⟨⟨hr, hb⟩, hg⟩ := hg
    have hp := (rowGood_facts hr).1
    simp only [belowB, Bool.and_eq_true] at hb
    have hlen := of_decide_eq_true hb.1
    exact ih (i + 1) (by omega) (by omega) (by rw [Nat.add_sub_cancel]; omega) (by rw [Nat.add_sub_cancel]; omega) hg
theorem isDesc_short (n : Int) (l : List (List Int)) (hn : 0 ≤ n) (h : isDesc n l = true) : (l.length : Int) ≤ n := by
  unfold isDesc at h
  rcases Nat.eq_zero_or_pos l.length with h0 | h0
  · omega
  · rw [goodFrom_step n l 0 h0, Bool.and_eq_true, Bool.and_eq_true] at h
    obtain ⟨⟨hr, _⟩, hg⟩ := h
    have hf := rowGood_facts hr
    exact goodFrom_short n l (l.length - 1) 1 (by omega) (by omega) hf.1 (by rw [Nat.sub_self]; omega) hg
theorem spec_isDesc_ev (n : Int) (l : List (List Int)) (hl : rowsOk l) (hn : 0 ≤ n) : Ev (fun k => spec_dpGood.f k l n) (isDesc n l) := by
  unfold spec_dpGood.f
  by_cases h : (l.length : Int) > n
  · refine Ev.ite_pos h ?_
    have : isDesc n l = false := by
      cases hd : isDesc n l with
      | false => rfl
      | true => have := isDesc_short n l hn hd; omega
    rw [this]
    exact Ev.now _
  · exact Ev.ite_neg h (specGood_l0 n l hl l.length 0 (by omega))

end Go.Proofs.Ytdcdkckpmkfjdaa.L

/- The rows below a row: what the two sides make. -/
namespace Go.Proofs.Ytdcdkckpmkfjdaa.L
open Go.RowKit Go.Proofs.Ytdcdkckpmkfjdaa Go.Proofs.Ytdcdkckpmkfjdaa.P Go.Proofs.YtdcdkckpmkfjdaaW.PrintWords Go.Proofs.YtdcdkckpmkfjdaaW.PrintLast Go.Proofs.YtdcdkckpmkfjdaaW.PrintMore
set_option linter.unusedVariables false
set_option maxRecDepth 100000

theorem rows_6 : spec_dpRows.f 300 [] 6 = some (frX 6) ∧ ((frX 6).all fun r => decide (0 < r.length)) = true ∧ 0 < (frX 6).length := by decide +kernel
/-- The rows below l. -/
def rbT (l : List Int) : List (List Int) := (frX 6).filter fun x => standsB l x
theorem next_l0 (l : List Int) (hl : l.length ≤ 1000000) (L : List (List Int)) (hL : L.length ≤ 2000) (hp : ∀ r ∈ L, 0 < r.length) : ∀ (d i : Nat) (acc : List (List Int)), i + d = L.length → acc.length ≤ i → Ev (fun k => spec_dpNext.l0 k [l] acc L L.length i) (acc ++ (L.drop i).filter fun x => standsB l x) := by
  intro d
  induction d with
  | zero =>
    intro i acc hi ha
    refine Ev.step (fun k => by rw [spec_dpNext.l0]) ?_
    rw [show L.drop i = [] from List.drop_of_length_le (by omega), List.filter_nil, List.append_nil]
    exact Ev.ite_neg (by omega) (Ev.now _)
  | succ d ih =>
    intro i acc hi ha
    have hlt : i < L.length := by omega
    refine Ev.step (fun k => by rw [spec_dpNext.l0]) ?_
    have hrd : rd_L1 L (i : Int) = L[i] := by show L.getD (i : Int).toNat [] = _; rw [Int.toNat_natCast, List.getD_eq_getElem?_getD, List.getElem?_eq_getElem hlt]; rfl
    rw [hrd, show wrap64 (((([l] : List (List Int)).length : Nat) : Int) - 1) = 0 from by rw [List.length_singleton]; unfold wrap64; omega, show rd_L1 [l] 0 = l from rfl, wrapS i (by omega), List.drop_eq_getElem_cons hlt]
    refine Ev.ite_pos (by omega) (Ev.ite_pos (by omega) (Ev.ite_pos (by omega) (Ev.ite_neg (by simp) (Ev.ite_pos (by omega) (Ev.ite_pos (by simp) (Ev.bind (spec_stands_ev l L[i] (hp _ (List.getElem_mem hlt)) hl) ?_))))))
    cases hs : standsB l L[i] with
    | true =>
      rw [List.filter_cons_of_pos (by simpa using hs)]
      have := ih (i + 1) (acc ++ [L[i]]) (by omega) (by simp; omega)
      rw [List.append_assoc, List.singleton_append] at this
      exact Ev.ite_pos rfl (Ev.ite_pos (by omega) this)
    | false =>
      rw [List.filter_cons_of_neg (by simp [hs])]
      exact Ev.ite_neg (by simp) (ih (i + 1) acc (by omega) (by omega))
theorem next_ev (l : List Int) (hl : l.length ≤ 1000000) : Ev (fun k => spec_dpNext.f k [l] 6) (rbT l) := by
  have h6 := (fr_all (n := 6) (by omega) (by omega)).2.2.1
  unfold spec_dpNext.f
  refine Ev.bind (a := frX 6) ⟨300, fun k hk => at_rounds (spec_dpRows.mono [] 6) hk rows_6.1⟩ ?_
  have := next_l0 l hl (frX 6) h6 (fun r hr => of_decide_eq_true (List.all_eq_true.1 rows_6.2.1 r hr)) (frX 6).length 0 [] (by omega) (by simp)
  rwa [List.drop_zero, List.nil_append] at this
/-- A list of one row that came in. -/
theorem one_row {w : World} {A : Option Addr} {c : Nat} {l : List Int} (hC : Kd.C (Kd.int .i64) w A l.length l) (hc : l.length ≤ c) : Kd.C (Kd.slice 3 (Kd.int .i64)) (w.alloc (.cells #[.slice A l.length c] 22)) (some ⟨w.heap.size, 0, none⟩) ([l] : List (List Int)).length [l] := by
  have hb := below_alloc (Below.refl w.heap.size w) (.cells #[.slice A l.length c] 22)
  have hR : RawN (w.alloc (.cells #[.slice A l.length c] 22)) w.heap.size (fun _ => True) w.heap.size 1 [.slice A l.length c] [l] := by
    refine ⟨rfl, Nat.le_refl _, by unfold maxLen; omega, Nat.le_refl _, trivial, ⟨_, blk_new w _, rfl, rfl⟩, fun j x u hx hu => ?_⟩
    rcases j with _ | j
    · obtain rfl := Option.some.inj hx
      obtain rfl := Option.some.inj hu
      exact Kd.FK_mono (Kd.FK_below (Kd.FK_slice_mk hc (Kd.C_F (Kd.heap_int _) hC)) hb) (fun k hk => ⟨trivial, by omega⟩)
    · simp at hx
  exact (Kd.N_reads' (RawN.N hR)).2.2
theorem good_len {l : List Int} (h : rowGood 6 l = true) : l.length ≤ 6 := by
  have := (rowGood_facts h).2.1
  omega
set_option maxHeartbeats 2000000 in
theorem spec_RowsBelow_calls (A : Option Addr) (c : Nat) (l : List Int) (w : World) (hC : Kd.C (Kd.int .i64) w A l.length l) (hc : l.length ≤ c) (hl : l.length ≤ 1048576) :
    Calls Try.prog 40 #[.slice A l.length c] w (RetC (Kd.slice 3 (Kd.int .i64)) w (if rowGood 6 l = true then rbT l else []) (rowGood 6 l)) := by
  obtain ⟨k1, h1⟩ := (dpRow_ev l 6 (by omega)).rounds
  have HR := Aside0.mk (fun W (hb : Below w.heap.size w W) => spec_dpRow.calls k1 A c l 6 (rowGood 6 l) W (Kd.C_below hC hb) hc h1)
  have HCC := Aside0.mk hC
  have HB := Aside0.mk (Below.refl w.heap.size w)
  clear h1 hC
  cases hg : rowGood 6 l with
  | false =>
    rw [hg] at HR
    rw [if_neg (by simp)]
    clear hg
    go_enter Try.func40, Try.ntmps40
    go_wp2_with (go_at_call 95; refine (HR.out _ HB.out).mono ?_; rintro e w1 ⟨rfl, hd⟩; have hb := hd.below; clear hd)
    go_ret2
    exact ⟨none, 0, rfl, Nat.le_refl _, Kd.C_nil _ _, hb⟩
  | true =>
    rw [hg] at HR
    rw [if_pos rfl]
    obtain ⟨k2, h2⟩ := (next_ev l (by have := good_len hg; omega)).rounds
    have HN := Aside0.mk (fun W A' c' h g => spec_dpNext.calls k2 A' c' [l] 6 (rbT l) W h g h2)
    obtain ⟨T, hT⟩ : ∃ T, T = rbT l := ⟨_, rfl⟩
    rw [← hT] at HN ⊢
    clear hg hT h2
    go_enter Try.func40, Try.ntmps40
    go_wp2_with (first
      | (go_at_call 95; refine (HR.out _ HB.out).mono ?_; rintro e w1 ⟨rfl, hd⟩; have HB1 := Aside0.mk hd.below; clear hd)
      | (go_at_call 92; refine (HN.out _ _ _ (one_row (Kd.C_below HCC.out HB1.out) hc) (Nat.le_refl _)).mono ?_; rintro e w2 ⟨v, rfl, hN, hb⟩; obtain ⟨A2, c2, rfl⟩ := Kd.N_slice hN; have HRD := Aside0.mk (Kd.N_reads' hN).2; have HB2 := Aside0.mk (below_step (below_alloc HB1.out (.cells #[.slice A l.length c] 22)) hb); clear hN hb))
    go_ret2
    exact ⟨A2, c2, rfl, HRD.out.1, HRD.out.2, HB2.out⟩
set_option maxHeartbeats 2000000 in
theorem impl_RowsBelow_calls (A : Option Addr) (c : Nat) (l : List Int) (w : World) (hC : Kd.C (Kd.int .i64) w A l.length l) (hc : l.length ≤ c) (hl : l.length ≤ 1048576) :
    Calls Try.prog 41 #[.slice A l.length c] w (RetTT w (if rowGood 6 l = true then rbT l else []) (rowGood 6 l)) := by
  obtain ⟨k1, h1⟩ := (descRow_ev l 6 (by omega)).rounds
  have HR := Aside0.mk (fun W (hb : Below w.heap.size w W) => impl_isDescendedRow.calls k1 A c l 6 (rowGood 6 l) W (Kd.C_below hC hb) hc h1)
  have HF := Aside0.mk (fun W => impl_firstRows_calls 6 (by omega) (by omega) W)
  have HCC := Aside0.mk hC
  have HB := Aside0.mk (Below.refl w.heap.size w)
  have hF6 := (fr_all (n := 6) (by omega) (by omega)).2.2.1
  have hFp : ∀ x ∈ frX 6, 0 < x.length := fun r hr => of_decide_eq_true (List.all_eq_true.1 rows_6.2.1 r hr)
  have hF0 := rows_6.2.2
  unfold rbT
  obtain ⟨F, hF⟩ : ∃ F, F = frX 6 := ⟨_, rfl⟩
  rw [← hF] at HF hF6 hFp hF0 ⊢
  have HFP := Aside0.mk hFp
  clear hF h1 hC hFp
  cases hg : rowGood 6 l with
  | false =>
    rw [hg] at HR
    rw [if_neg (by simp)]
    clear hg
    go_enter Try.func41, Try.ntmps41
    go_wp2_with (go_at_call 96; refine (HR.out _ HB.out).mono ?_; rintro e w1 ⟨rfl, hb⟩)
    go_ret2
    exact ⟨_, rfl, Kd.S_nil _ _ _ _ _, hb⟩
  | true =>
    rw [hg] at HR
    rw [if_pos rfl]
    have hl2 : l.length ≤ 1000000 := by have := good_len hg; omega
    clear hg
    go_enter Try.func41, Try.ntmps41
    go_wp2_with (first
      | (go_at_call 96; refine (HR.out _ HB.out).mono ?_; rintro e w1 ⟨rfl, hb⟩; have HB1 := Aside0.mk hb; clear hb)
      | (go_at_call 94; refine (HF.out _).mono ?_; rintro e w2 ⟨v, rfl, hS, hb⟩; obtain ⟨A2, c2, rfl⟩ := Kd.R_slice (Kd.S_R hS); obtain ⟨ad2, rfl, _⟩ := (Kd.R_reads' (Kd.S_R hS)).2.2.2.2 hF0; obtain ⟨g2, rfl⟩ := Kd.R_head (Kd.S_R hS); have HS := Aside0.mk (Kd.S_lower hS HB1.out.size); have HB2 := Aside0.mk (below_step HB1.out hb); clear hS hb)
      | (go_at_call 97; refine (impl_below.callsS (ok := fun _ => True) hl2 (by omega) HFP.out hc (Kd.C_below HCC.out HB2.out) HS.out HB2.out.size (fun _ _ => trivial)).mono ?_; rintro e w3 ⟨v3, rfl, hS3, hb3⟩; have HS3 := Aside0.mk hS3; have HB3 := Aside0.mk (below_step HB2.out hb3); clear hS3 hb3))
    go_ret2
    exact ⟨_, rfl, HS3.out, HB3.out⟩
end Go.Proofs.Ytdcdkckpmkfjdaa.L

/- The program's RowsBelow answers as the reference's RowsBelow, for every row; what comes back is the call's own, and the row stays as it was (the walk of the law FnExactRowsBelow; no condition). -/
namespace Go.Proofs.Ytdcdkckpmkfjdaa.Law
open Go.RowKit Go.Proofs.Ytdcdkckpmkfjdaa Go.Proofs.Ytdcdkckpmkfjdaa.P Go.Proofs.Ytdcdkckpmkfjdaa.L Go.Proofs.YtdcdkckpmkfjdaaW.PrintWords Go.Proofs.YtdcdkckpmkfjdaaW.PrintLast Go.Proofs.YtdcdkckpmkfjdaaW.PrintMore

theorem FnExactRowsBelow (A : Option Addr) (cap : Nat) (l : List Int) {W0 : World} (h : Kd.C (Kd.int .i64) W0 A l.length l) (hc : l.length ≤ cap) (_hy : l.length * 8 ≤ 140737488351232) (_hw : ∀ x ∈ l, (Lit.int .i64 x).wf = true) (W : World) (hW : W = W0) :
    Calls Try.prog 11 #[.slice A l.length cap] W fun e w' => e = .returned (.bool true) ∧ Below W.heap.size W w' := by
  subst hW
  by_cases hl : l.length ≤ 1048576
  · have hr : fewRows (if rowGood 6 l = true then rbT l else []) := by
      have h6 := fr_all (n := 6) (by omega) (by omega)
      split
      · exact ⟨Nat.le_trans (List.length_filter_le _ _) (by have := h6.2.2.1; omega), fun r hr => Nat.le_trans (h6.2.2.2 r (List.mem_filter.1 hr).1) (by omega)⟩
      · exact ⟨by simp, fun r hr => by simp at hr⟩
    exact walkRowsBelow A cap l _ _ W h hc hl hr (fun W' A' c' h' g' => spec_RowsBelow_calls A' c' l W' h' g' hl) (fun W' A' c' h' g' => impl_RowsBelow_calls A' c' l W' h' g' hl)
  · exact skipRowsBelow A cap l W hl
end Go.Proofs.Ytdcdkckpmkfjdaa.Law
