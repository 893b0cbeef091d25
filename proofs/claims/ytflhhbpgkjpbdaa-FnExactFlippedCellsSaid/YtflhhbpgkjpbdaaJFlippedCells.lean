import Derived.Test.YtflhhbpgkjpbdaaLA
import Derived.Test.YtflhhbpgkjpbdaaPx16
import Derived.Test.YtflhhbpgkjpbdaaPx20
import Derived.Test.YtflhhbpgkjpbdaaPx22
import Derived.Test.YtflhhbpgkjpbdaaHF
import Derived.Test.YtflhhbpgkjpbdaaLB
import Derived.Test.YtflhhbpgkjpbdaaPx17
/- The walk of the law FnExactFlippedCells, out of contracts of the two functions. -/
namespace Go.Proofs.Ytflhhbpgkjpbdaa.Law
open Go.RowKit Go.Proofs.Ytflhhbpgkjpbdaa Go.Proofs.Ytflhhbpgkjpbdaa.P Go.Proofs.Ytflhhbpgkjpbdaa.L Go.Proofs.YtflhhbpgkjpbdaaW.PrintWords Go.Proofs.YtflhhbpgkjpbdaaW.PrintLast Go.Proofs.YtflhhbpgkjpbdaaW.PrintMore
set_option linter.unusedVariables false
set_option linter.unusedSimpArgs false

set_option maxHeartbeats 8000000 in
set_option maxRecDepth 100000 in
theorem walkFlippedCells (A : Option Addr) (cap : Nat) (l : List (List Int)) (x : Int) (r : List (List Int)) (b : Bool) (W : World) (h : RowsIn W A l.length cap l) (hl : fewRows l) (hr : fewRows r) (t : Int) (ht : ¬ t < 0) (k0 : Nat) (hsz : laws_szIntSS.f k0 l 1048576 = some t)
    (hspec : ∀ (W' : World) (A' : Option Addr) (c' : Nat), Kd.C (Kd.slice 3 (Kd.int .i64)) W' A' l.length l → l.length ≤ c' → Calls Try.prog 17 #[.slice A' l.length c', .int .i64 x] W' fun e w' => ∃ v0_ : Value, e = .returned (.tuple #[v0_, .bool b]) ∧ Kd.S (Kd.slice 3 (Kd.int .i64)) 43 w' W'.heap.size (fun _ => True) v0_ r ∧ Below W'.heap.size W' w')
    (himpl : ∀ (W' : World) (A' : Option Addr) (c' : Nat), Kd.C (Kd.slice 3 (Kd.int .i64)) W' A' l.length l → l.length ≤ c' → Calls Try.prog 19 #[.slice A' l.length c', .int .i64 x] W' fun e w' => ∃ v0_ : Value, e = .returned (.tuple #[v0_, .bool b]) ∧ Kd.S (Kd.slice 3 (Kd.int .i64)) 43 w' W'.heap.size (fun _ => True) v0_ r ∧ Below W'.heap.size W' w') :
    Calls Try.prog 3 #[.slice A l.length cap, .int .i64 x] W fun e w' => e = .returned (.bool true) ∧ Below W.heap.size W w' := by
  have HC := Aside0.mk h.read
  have HLE := Aside0.mk h.le
  have HFL := Aside0.mk hl
  have HFR := Aside0.mk hr
  have HSP := Aside0.mk hspec
  have HIM := Aside0.mk himpl
  have HB := Aside0.mk (Below.refl W.heap.size W)
  have htd : decide (t < 0) = false := decide_eq_false ht
  obtain ⟨ke, hke⟩ := (eqIntSS l hl.ok).rounds
  obtain ⟨kr, hkr⟩ := (eqIntSS r hr.ok).rounds
  obtain ⟨kh, hkh⟩ := (heldIntSS_ev r 1 (by have := hr.1; omega) (few_n hr)).rounds
  have HSZ := Aside0.mk (fun W' hb => laws_szIntSS.calls k0 A cap l 1048576 t W' (Kd.C_below h.read hb) h.le hsz)
  have HTO := Aside0.mk (fun W' hb => laws_toIntSS.calls A cap l l W' (Kd.C_below h.read hb) h.le (toIntSS_eq l hl.ok))
  have HEL := Aside0.mk (fun W' A0 c0 A1 c1 h0 g0 h1 g1 => laws_eqIntSS.calls ke A0 c0 l A1 c1 l true W' h0 g0 h1 g1 hke)
  have HER := Aside0.mk (fun W' A0 c0 A1 c1 h0 g0 h1 g1 => laws_eqIntSS.calls kr A0 c0 r A1 c1 r true W' h0 g0 h1 g1 hkr)
  have HHE := Aside0.mk (fun W' A0 c0 h0 g0 => laws_heldIntSS.calls kh A0 c0 (markT r 1) 1 (nTo r 1 r.length : Nat) W' h0 g0 hkh)
  have HMX := Aside0.mk (fun (a b : Nat) (v : Value) (w : World) (hB : Below W.heap.size W w) (ho : Own W.heap.size a b w v l) => mark_own rfl hB ho hl)
  have HMG := Aside0.mk (fun (a b : Nat) (v : Value) (w : World) (hB : Below W.heap.size W w) (ho : Own W.heap.size a b w v r) => mark_own rfl hB ho hr)
  have hnl : ¬ ((nTo l 1 l.length : Nat) : Int) < 0 := by omega
  have hnr : ¬ ((nTo r 1 r.length : Nat) : Int) < 0 := by omega
  have hml : (markT r 1).length = r.length := markS_length _ _ _
  obtain ⟨nl, hnle⟩ : ∃ n, n = nTo l 1 l.length := ⟨_, rfl⟩
  obtain ⟨nr, hnre⟩ : ∃ n, n = nTo r 1 r.length := ⟨_, rfl⟩
  rw [← hnle] at HMX hnl
  rw [← hnre] at HMG HHE hnr
  rw [hml] at HHE
  obtain ⟨mr, hmr⟩ : ∃ m, m = markT r 1 := ⟨_, rfl⟩
  rw [← hmr] at HMG HHE hml
  obtain ⟨ml, hmle⟩ : ∃ m, m = markT l 1 := ⟨_, rfl⟩
  rw [← hmle] at HMX
  have HML := Aside0.mk hml
  clear h hl hr ht hsz hspec himpl hke hkr hkh hnle hnre hmr hmle hml
  go_enter Try.func3, Try.ntmps3
  go_wp2_with (first
    | (go_at_call 16; refine (HSZ.out _ HB.out).mono ?_; rintro e w1 ⟨rfl, hd⟩; have hb := hd.below; clear hd; (try (have n_ := Aside0.mk (HW.out.below hb); clear HW; have HW := n_)); (try (have n_ := Aside0.mk (HX.out.below hb); clear HX; have HX := n_)); (try (have n_ := Aside0.mk (HG.out.below hb); clear HG; have HG := n_)); (try (have n_ := Aside0.mk (HT.out.below hb); clear HT; have HT := n_)); (try (have n_ := Aside0.mk (HG1.out.below hb); clear HG1; have HG1 := n_)); (have n_ := Aside0.mk (below_step HB.out hb)); clear HB; have HB := n_; clear hb)
    | (go_at_call 18; refine (HTO.out _ HB.out).mono ?_; rintro e w1 ⟨v, rfl, hS, hb⟩; have ho := Own.new hS HB.out.size; clear hS; obtain ⟨Av, cv, rfl, hcv⟩ := ho.slice; (try clear HT HTc); (try clear HDT); (try have HDT := Aside0.mk HW.out.hi); (try (have n_ := Aside0.mk (HW.out.below hb); clear HW; have HW := n_)); (try (have n_ := Aside0.mk (HX.out.below hb); clear HX; have HX := n_)); (try (have n_ := Aside0.mk (HG.out.below hb); clear HG; have HG := n_)); (try (have n_ := Aside0.mk (HT.out.below hb); clear HT; have HT := n_)); (try (have n_ := Aside0.mk (HG1.out.below hb); clear HG1; have HG1 := n_)); (have n_ := Aside0.mk (below_step HB.out hb)); clear HB; have HB := n_; clear hb; have HT := Aside0.mk ho; have HTc := Aside0.mk hcv; clear ho hcv)
    | (go_at_call 17; refine (HSP.out _ _ _ HT.out.reads HTc.out).mono ?_; rintro e w1 ⟨v, rfl, hS, hb⟩; have ho := Own.new hS HB.out.size; clear hS; obtain ⟨Aw, cw, rfl, hcw⟩ := ho.slice; clear HT HTc; (try (have n_ := Aside0.mk (HW.out.below hb); clear HW; have HW := n_)); (try (have n_ := Aside0.mk (HX.out.below hb); clear HX; have HX := n_)); (try (have n_ := Aside0.mk (HG.out.below hb); clear HG; have HG := n_)); (try (have n_ := Aside0.mk (HT.out.below hb); clear HT; have HT := n_)); (try (have n_ := Aside0.mk (HG1.out.below hb); clear HG1; have HG1 := n_)); (have n_ := Aside0.mk (below_step HB.out hb)); clear HB; have HB := n_; clear hb; have HW := Aside0.mk ho; have HWc := Aside0.mk hcw; clear ho hcw)
    | (go_at_call 19; have hg_ := HG; clear hg_; refine (HIM.out _ _ _ HT.out.reads HTc.out).mono ?_; rintro e w1 ⟨v, rfl, hS, hb⟩; have ho := Own.new hS HB.out.size; clear hS; obtain ⟨Ah, ch, rfl, hch⟩ := ho.slice; clear HT HTc; (try (have n_ := Aside0.mk (HW.out.below hb); clear HW; have HW := n_)); (try (have n_ := Aside0.mk (HX.out.below hb); clear HX; have HX := n_)); (try (have n_ := Aside0.mk (HG.out.below hb); clear HG; have HG := n_)); (try (have n_ := Aside0.mk (HT.out.below hb); clear HT; have HT := n_)); (try (have n_ := Aside0.mk (HG1.out.below hb); clear HG1; have HG1 := n_)); (have n_ := Aside0.mk (below_step HB.out hb)); clear HB; have HB := n_; clear hb; have HG1 := Aside0.mk ho; have HG1c := Aside0.mk hch; clear ho hch)
    | (go_at_call 19; refine (HIM.out _ _ _ HT.out.reads HTc.out).mono ?_; rintro e w1 ⟨v, rfl, hS, hb⟩; have ho := Own.new hS HB.out.size; clear hS; obtain ⟨Ag, cg, rfl, hcg⟩ := ho.slice; have HD12 := HDT; have HD23 := Aside0.mk HT.out.hi; have HD13 := Aside0.mk HW.out.hi; clear HDT; have HX := HT; have HXc := HTc; clear HT HTc; (try (have n_ := Aside0.mk (HW.out.below hb); clear HW; have HW := n_)); (try (have n_ := Aside0.mk (HX.out.below hb); clear HX; have HX := n_)); (try (have n_ := Aside0.mk (HG.out.below hb); clear HG; have HG := n_)); (try (have n_ := Aside0.mk (HT.out.below hb); clear HT; have HT := n_)); (try (have n_ := Aside0.mk (HG1.out.below hb); clear HG1; have HG1 := n_)); (have n_ := Aside0.mk (below_step HB.out hb)); clear HB; have HB := n_; clear hb; have HG := Aside0.mk ho; have HGc := Aside0.mk hcg; clear ho hcg)
    | (go_at_call 20; (first | (with_reducible refine (HER.out _ _ _ _ _ HG.out.reads HGc.out HW.out.reads HWc.out).mono ?_) | (with_reducible refine (HEL.out _ _ _ _ _ HX.out.reads HXc.out HT.out.reads HTc.out).mono ?_) | (with_reducible refine (HER.out _ _ _ _ _ HG1.out.reads HG1c.out HW.out.reads HWc.out).mono ?_)); rintro e w1 ⟨rfl, hd⟩; have hb := hd.below; clear hd; (try (have n_ := Aside0.mk (HW.out.below hb); clear HW; have HW := n_)); (try (have n_ := Aside0.mk (HX.out.below hb); clear HX; have HX := n_)); (try (have n_ := Aside0.mk (HG.out.below hb); clear HG; have HG := n_)); (try (have n_ := Aside0.mk (HT.out.below hb); clear HT; have HT := n_)); (try (have n_ := Aside0.mk (HG1.out.below hb); clear HG1; have HG1 := n_)); (have n_ := Aside0.mk (below_step HB.out hb)); clear HB; have HB := n_; clear hb)
    | (go_at_call 21; (with_reducible refine (HMX.out _ _ _ _ HB.out HX.out).mono ?_); rintro e w1 ⟨rfl, ho, hb, hk⟩; have n1_ := Aside0.mk (HW.out.kept hk (.inl HD12.out)); have n2_ := Aside0.mk (HG.out.kept hk (.inr HD23.out)); clear HW HG HX HXc HB ho hk HT HTc HEL; have HW := n1_; have HG := n2_; have HB := Aside0.mk hb; clear n1_ n2_ hb)
    | (go_at_call 21; (with_reducible refine (HMG.out _ _ _ _ HB.out HG.out).mono ?_); rintro e w1 ⟨rfl, ho, hb, hk⟩; have n1_ := Aside0.mk (HW.out.kept hk (.inl HD13.out)); clear HW HG HB hk; have HW := n1_; have HG := Aside0.mk ho; have HB := Aside0.mk hb; clear n1_ hb ho)
    | (go_at_call 22; (with_reducible refine (HHE.out _ _ _ (HG.out.reads' HML.out) HGc.out).mono ?_); rintro e w1 ⟨rfl, hd⟩; have hb := hd.below; clear hd; (try (have n_ := Aside0.mk (HW.out.below hb); clear HW; have HW := n_)); (try (have n_ := Aside0.mk (HX.out.below hb); clear HX; have HX := n_)); (try (have n_ := Aside0.mk (HG.out.below hb); clear HG; have HG := n_)); (try (have n_ := Aside0.mk (HT.out.below hb); clear HT; have HT := n_)); (try (have n_ := Aside0.mk (HG1.out.below hb); clear HG1; have HG1 := n_)); (have n_ := Aside0.mk (below_step HB.out hb)); clear HB; have HB := n_; clear hb))
  go_ret
  exact ⟨rfl, HB.out⟩
theorem skipFlippedCells (A : Option Addr) (cap : Nat) (l : List (List Int)) (x : Int) (W : World) (h : RowsIn W A l.length cap l) (t : Int) (ht : t < 0) (k0 : Nat) (hsz : laws_szIntSS.f k0 l 1048576 = some t) :
    Calls Try.prog 3 #[.slice A l.length cap, .int .i64 x] W fun e w' => e = .returned (.bool true) ∧ Below W.heap.size W w' := by
  have HSZ := Aside0.mk (laws_szIntSS.calls k0 A cap l 1048576 t W h.read h.le hsz)
  have htd : decide (t < 0) = true := decide_eq_true ht
  clear h hsz
  go_enter Try.func3, Try.ntmps3
  go_wp2_with (go_at_call 16; refine HSZ.out.mono ?_; rintro e w1 ⟨rfl, hd⟩; have hb := hd.below; clear hd)
  go_ret
  exact ⟨rfl, hb⟩
/-- The law, out of the two functions' contracts. -/
theorem lawFlippedCells (A : Option Addr) (cap : Nat) (l : List (List Int)) (x : Int) (W : World) (h : RowsIn W A l.length cap l)
    (hboth : fewRows l → ∃ (r : List (List Int)) (b : Bool), fewRows r ∧
      (∀ (W' : World) (A' : Option Addr) (c' : Nat), Kd.C (Kd.slice 3 (Kd.int .i64)) W' A' l.length l → l.length ≤ c' → Calls Try.prog 17 #[.slice A' l.length c', .int .i64 x] W' fun e w' => ∃ v0_ : Value, e = .returned (.tuple #[v0_, .bool b]) ∧ Kd.S (Kd.slice 3 (Kd.int .i64)) 43 w' W'.heap.size (fun _ => True) v0_ r ∧ Below W'.heap.size W' w') ∧
      (∀ (W' : World) (A' : Option Addr) (c' : Nat), Kd.C (Kd.slice 3 (Kd.int .i64)) W' A' l.length l → l.length ≤ c' → Calls Try.prog 19 #[.slice A' l.length c', .int .i64 x] W' fun e w' => ∃ v0_ : Value, e = .returned (.tuple #[v0_, .bool b]) ∧ Kd.S (Kd.slice 3 (Kd.int .i64)) 43 w' W'.heap.size (fun _ => True) v0_ r ∧ Below W'.heap.size W' w')) :
    Calls Try.prog 3 #[.slice A l.length cap, .int .i64 x] W fun e w' => e = .returned (.bool true) ∧ Below W.heap.size W w' := by
  obtain ⟨t, ht, hd⟩ := szIntSS_in h
  obtain ⟨k, hk⟩ := ht.rounds
  by_cases hn : t < 0
  · exact skipFlippedCells A cap l x W h t hn k hk
  · have hf := hd.resolve_left hn
    obtain ⟨r, b, hr, h1, h2⟩ := hboth hf
    exact walkFlippedCells A cap l x r b W h hf hr t hn k hk h1 h2
end Go.Proofs.Ytflhhbpgkjpbdaa.Law

/- The program's FlippedCells answers as the reference's FlippedCells, for every table and every number; the table stays as it was, and what comes back is the call's own (the walk of the law FnExactFlippedCells; no condition). -/
namespace Go.Proofs.Ytflhhbpgkjpbdaa.Law
open Go.RowKit Go.Proofs.Ytflhhbpgkjpbdaa Go.Proofs.Ytflhhbpgkjpbdaa.P Go.Proofs.Ytflhhbpgkjpbdaa.L Go.Proofs.YtflhhbpgkjpbdaaW.PrintWords Go.Proofs.YtflhhbpgkjpbdaaW.PrintLast Go.Proofs.YtflhhbpgkjpbdaaW.PrintMore

theorem few_sign {l : List (List Int)} (hs : isSign l = true) : fewRows l := by
  obtain ⟨h1, h2, h3, _⟩ := isSign_facts hs
  refine ⟨by omega, fun r hr => ?_⟩
  obtain ⟨i, hi, rfl⟩ := List.getElem_of_mem hr
  have := h3 i hi
  rw [getD_at l [] i hi] at this
  omega
def flF (h : Nat → Nat → Int) (c : List (Nat × Nat)) : List (List Int) := (rowsOf c).filter fun r => !decide (wayF h (rd r 0).toNat (rd r 1).toNat = 0)
theorem flF_append (h : Nat → Nat → Int) (c d : List (Nat × Nat)) : flF h (c ++ d) = flF h c ++ flF h d := by unfold flF rowsOf; rw [List.map_append, List.filter_append]
theorem flF_one (h : Nat → Nat → Int) (i j : Nat) : flF h [(i, j)] = if wayF h i j = 0 then [] else [[(i : Int), (j : Int)]] := by
  have e : flF h [(i, j)] = [[(i : Int), (j : Int)]].filter fun r => !decide (wayF h (rd r 0).toNat (rd r 1).toNat = 0) := rfl
  have e2 : (rd [(i : Int), (j : Int)] 0).toNat = i := by simp [rd]
  have e3 : (rd [(i : Int), (j : Int)] 1).toNat = j := by simp [rd]
  rw [e]
  by_cases hq : wayF h i j = 0
  · rw [if_pos hq]; simp [e2, e3, hq]
  · rw [if_neg hq]; simp [e2, e3, hq]
theorem flF_length (h : Nat → Nat → Int) (c : List (Nat × Nat)) : (flF h c).length ≤ c.length := by
  unfold flF
  exact Nat.le_trans (List.length_filter_le _ _) (by rw [rowsOf_length]; exact Nat.le_refl _)
theorem flC_eq (l : List (List Int)) (x : Int) : flipC l x = flF (hF l) (allC (colP x) (l.length - 1) (l.length - 1)) := rfl
theorem fl_l1 (l : List (List Int)) (hs : isSign l = true) (x : Int) (i : Nat) (hi1 : 1 ≤ i) (hi : i < l.length) (pre : List (Nat × Nat)) (hpre : pre.length ≤ 100) (R : List (List Int) × Bool)
    (hR : Ev (fun k => spec_FlippedCells.l0 k l x (heightsM l) (flF (hF l) (pre ++ rowC (colP x) i (l.length - 1))) ((i + 1 : Nat) : Int)) R) :
    ∀ d j, 1 ≤ j → j + d = l.length → Ev (fun k => spec_FlippedCells.l1 k l x (heightsM l) (flF (hF l) (pre ++ rowC (colP x) i (j - 1))) i j) R := by
  have h2 := (isSign_facts hs).2.1
  intro d
  induction d with
  | zero =>
    intro j hj hjd
    refine Ev.step (fun k => by rw [spec_FlippedCells.l1]) ?_
    refine Ev.ite_neg (by omega) ?_
    rw [wrapS i (by omega), show j = l.length by omega]
    exact hR
  | succ d ih =>
    intro j hj hjd
    refine Ev.step (fun k => by rw [spec_FlippedCells.l1]) ?_
    refine Ev.ite_pos (by omega) ?_
    obtain ⟨m, rfl⟩ : ∃ m, j = m + 1 := ⟨j - 1, by omega⟩
    have hnx := ih (m + 1 + 1) (by omega) (by omega)
    have hst : rowC (colP x) i (m + 1) = rowC (colP x) i m ++ (if colP x i (m + 1) = true then [(i, m + 1)] else []) := rfl
    rw [Nat.add_sub_cancel] at hnx ⊢
    rw [hst] at hnx
    have hlen : (flF (hF l) (pre ++ rowC (colP x) i m)).length < 5864062014805 := by
      have h1 := flF_length (hF l) (pre ++ rowC (colP x) i m)
      have h3 := rowC_length (colP x) i m
      rw [List.length_append] at h1
      omega
    rw [wrapI ((i : Int) + ((m + 1 : Nat) : Int)) (by omega) (by omega), wrapS (m + 1) (by omega)]
    by_cases hc : Int.tmod ((i : Int) + ((m + 1 : Nat) : Int)) 2 = x
    · refine Ev.ite_pos hc ?_
      have hcp : colP x i (m + 1) = true := by unfold colP; exact beq_iff_eq.2 hc
      rw [if_pos hcp, ← List.append_assoc, flF_append, flF_one] at hnx
      have hw := wayS_way (sign_HOK hs) hi1 hi (show 1 ≤ m + 1 by omega) (show m + 1 < l.length by omega)
      refine Ev.bind (heWay_ev (sign_HOK hs) h2 hi1 hi (show 1 ≤ m + 1 by omega) (show m + 1 < l.length by omega)) ?_
      by_cases hz : wayS (hF l) i (m + 1) = 0
      · refine Ev.ite_pos hz ?_
        rw [if_pos (by omega), List.append_nil] at hnx
        exact hnx
      · refine Ev.ite_neg hz (Ev.ite_pos hlen ?_)
        rw [if_neg (by omega)] at hnx
        exact hnx
    · refine Ev.ite_neg hc ?_
      have hcp : colP x i (m + 1) = false := by unfold colP; exact beq_eq_false_iff_ne.2 hc
      rw [if_neg (by rw [hcp]; simp), List.append_nil] at hnx
      exact hnx
theorem fl_l0 (l : List (List Int)) (hs : isSign l = true) (x : Int) : ∀ d i, 1 ≤ i → i + d = l.length → Ev (fun k => spec_FlippedCells.l0 k l x (heightsM l) (flF (hF l) (allC (colP x) (l.length - 1) (i - 1))) i) (flipC l x, true) := by
  have h2 := (isSign_facts hs).2.1
  intro d
  induction d with
  | zero =>
    intro i hi hid
    refine Ev.step (fun k => by rw [spec_FlippedCells.l0]) ?_
    rw [flC_eq, show i = l.length by omega]
    exact Ev.ite_neg (by omega) (Ev.now _)
  | succ d ih =>
    intro i hi hid
    refine Ev.step (fun k => by rw [spec_FlippedCells.l0]) ?_
    refine Ev.ite_pos (by omega) ?_
    obtain ⟨m, rfl⟩ : ∃ m, i = m + 1 := ⟨i - 1, by omega⟩
    have hnx := ih (m + 1 + 1) (by omega) (by omega)
    rw [Nat.add_sub_cancel] at hnx ⊢
    have h3 := allC_length (colP x) (l.length - 1) m
    have h4 : m * (l.length - 1) ≤ 6 * 6 := Nat.mul_le_mul (by omega) (by omega)
    have := fl_l1 l hs x (m + 1) (by omega) (by omega) (allC (colP x) (l.length - 1) m) (by omega) _ hnx (l.length - 1) 1 (by omega) (by omega)
    rw [Nat.sub_self, show rowC (colP x) (m + 1) 0 = [] from rfl, List.append_nil] at this
    exact this
theorem spec_flipped_ev (l : List (List Int)) (hf : fewRows l) (x : Int) : Ev (fun k => spec_FlippedCells.f k l x) (if (isSign l && inB x 0 1) = true then flipC l x else [], isSign l && inB x 0 1) := by
  unfold spec_FlippedCells.f
  refine Ev.bind (sgGood_ev l hf) ?_
  cases hs : isSign l with
  | false =>
    refine Ev.ite_neg (by simp) (Ev.step (fun k => by rw [spec_FlippedCells.j0]) (Ev.ite_pos rfl ?_))
    rw [Bool.false_and, if_neg (by simp)]
    exact Ev.now _
  | true =>
    refine Ev.ite_pos rfl (Ev.some_bind (l1In_eq x 0 1) (Ev.step (fun k => by rw [spec_FlippedCells.j0]) ?_))
    rw [Bool.true_and]
    cases hx : inB x 0 1 with
    | false => exact Ev.ite_pos rfl (Ev.now _)
    | true =>
      have h1 := (isSign_facts hs).1
      refine Ev.ite_neg (by simp) (Ev.bind (heOf_ev l (sign_small hs)) ?_)
      rw [if_pos rfl]
      have := fl_l0 l hs x (l.length - 1) 1 (by omega) (by omega)
      rw [Nat.sub_self, show allC (colP x) (l.length - 1) 0 = [] from rfl] at this
      exact this
theorem fewFlipped (l : List (List Int)) (x : Int) : fewRows (if (isSign l && inB x 0 1) = true then flipC l x else []) := by
  split
  · rename_i hs
    rw [Bool.and_eq_true] at hs
    have h2 := (isSign_facts hs.1).2.1
    refine ⟨?_, fun r hr => ?_⟩
    · have h3 := flF_length (hF l) (allC (colP x) (l.length - 1) (l.length - 1))
      have h4 := allC_length (colP x) (l.length - 1) (l.length - 1)
      have h5 : (l.length - 1) * (l.length - 1) ≤ 6 * 6 := Nat.mul_le_mul (by omega) (by omega)
      rw [flC_eq]; omega
    · obtain ⟨d, _, rfl⟩ := List.mem_map.1 (List.mem_filter.1 hr).1
      show 2 ≤ _
      decide
  · exact ⟨by simp, fun r hr => by cases hr⟩
theorem FnExactFlippedCells (A : Option Addr) (cap : Nat) (l : List (List Int)) {W0 : World} (h : RowsIn W0 A l.length cap l) (x : Int) (_hx : (Lit.int .i64 x).wf = true) (W : World) (hW : W = W0) :
    Calls Try.prog 3 #[.slice A l.length cap, .int .i64 x] W fun e w' => e = .returned (.bool true) ∧ Below W.heap.size W w' := by
  subst hW
  refine lawFlippedCells A cap l x W h fun hf => ?_
  obtain ⟨k, hk⟩ := (spec_flipped_ev l hf x).rounds
  exact ⟨_, _, fewFlipped l x, fun W' A' c' h1 h2 => spec_FlippedCells.calls k A' c' l x _ _ W' h1 h2 hk, fun W' A' c' h1 h2 => impl_FlippedCells.callsG A' c' l x W' h1 h2⟩
end Go.Proofs.Ytflhhbpgkjpbdaa.Law
