/- The program's Condense answers as the reference's, for every table and number; the table stays as it was. -/
import Derived.Test.YtkiloimggmpggaaYCondense19
namespace Go.Proofs.Ytkiloimggmpggaa.L
open Go.RowKit Go.Proofs.Ytkiloimggmpggaa Go.Proofs.Ytkiloimggmpggaa.P Go.Proofs.YtkiloimggmpggaaW.PrintWords Go.Proofs.YtkiloimggmpggaaW.PrintLast Go.Proofs.YtkiloimggmpggaaW.PrintMore
set_option linter.unusedVariables false
theorem stepsQ_length (lam : Nat) : ∀ (d : Nat) (bef now : List (List Q)), (stepsQ lam d bef now).length = d + 1
 | 0, _, _ => rfl
 | d + 1, bef, now => by rw [stepsQ, List.length_cons, stepsQ_length lam d]
/-- The last table has one place. -/
theorem last_one (lam : Nat) : ∀ (d : Nat) (bef now : List (List Q)), now.length = d + 1 → (∀ r ∈ now, r.length = d + 1) → ∃ q, (stepsQ lam d bef now)[d]? = some [[q]]
 | 0, bef, now, h1, h2 => by
  obtain ⟨r, rfl⟩ := List.length_eq_one_iff.1 h1
  obtain ⟨q, rfl⟩ := List.length_eq_one_iff.1 (h2 r (by simp))
  exact ⟨q, rfl⟩
 | d + 1, bef, now, h1, h2 => by
  obtain ⟨q, hq⟩ := last_one lam d now (nextQ lam (d + 1) now bef) (by simp [nextQ, rowsQ]) (fun r hr => by
   simp only [nextQ, rowsQ, List.mem_map] at hr
   obtain ⟨i, _, rfl⟩ := hr
   exact rowQ_length _ _ _ _ _)
  exact ⟨q, by rw [stepsQ, List.getElem?_cons_succ]; exact hq⟩
theorem tabs_last (l : List (List Int)) (a1 : Int) (hb : weightsB l = true) : (tabsQ l a1).length = l.length ∧ ∃ q, (tabsQ l a1)[l.length - 1]? = some [[q]] := by
 obtain ⟨h4, hTr, _⟩ := weights_ok hb
 refine ⟨by unfold tabsQ; rw [stepsQ_length]; omega, ?_⟩
 unfold tabsQ
 refine last_one _ _ _ _ (by simp [now0]; omega) (fun r hr => ?_)
 simp only [now0, List.mem_map] at hr
 obtain ⟨r0, h0, rfl⟩ := hr
 obtain ⟨i, hi, rfl⟩ := List.getElem_of_mem h0
 have := hTr i hi
 rw [getD_at l [] i hi] at this
 rw [List.length_map, this]
 omega
end Go.Proofs.Ytkiloimggmpggaa.L
namespace Go.Proofs.Ytkiloimggmpggaa.Law
open Go.RowKit Go.Proofs.Ytkiloimggmpggaa Go.Proofs.Ytkiloimggmpggaa.P Go.Proofs.Ytkiloimggmpggaa.L Go.Proofs.YtkiloimggmpggaaW.PrintWords Go.Proofs.YtkiloimggmpggaaW.PrintLast Go.Proofs.YtkiloimggmpggaaW.PrintMore
set_option linter.unusedVariables false
theorem bothCondense (t : List (List Int)) (a1 : Int) (hft : fewRows t) : ∃ (a b : Int) (c : Bool), Ev (fun k => spec_Condense.f k t a1) (a, b, c) ∧ impl_Condense.f t a1 = some (a, b, c) := by
 unfold spec_Condense.f impl_Condense.f impl_isCondensed.f
 have hg := weTable_ev t hft
 cases hb : weightsB t with
 | false =>
  have e2 : impl_isWeights.f t = some false := by unfold impl_isWeights.f; rw [hb]
  exact ⟨0, 0, false, Ev.bind (hb ▸ hg) (Ev.ite_neg (by simp) (Ev.now _)), by rw [e2]; rfl⟩
 | true =>
  have e2 : impl_isWeights.f t = some true := by unfold impl_isWeights.f; rw [hb]
  rw [e2]
  have e3 : (Option.bind (some true) fun t => if t = true then (impl_within.f a1 0 3).bind (fun b => some b) else some false) = some (inB a1 0 3) := by
   show (if true = true then (impl_within.f a1 0 3).bind (fun b => some b) else some false) = _
   rw [if_pos rfl, show impl_within.f a1 0 3 = some (inB a1 0 3) from rfl]; rfl
  cases hi : inB a1 0 3 with
  | false =>
   refine ⟨0, 0, false, Ev.bind (hb ▸ hg) (Ev.ite_pos rfl (Ev.some_bind (a := false) (by rw [l1In_eq, hi]) (Ev.ite_neg (by simp) (Ev.now _)))), ?_⟩
   rw [hi] at e3
   rw [e3]; rfl
  | true =>
   have hi2 := (inB_iff _ _ _).1 hi
   have h4 := (weights_ok hb).1
   obtain ⟨hl, q, hq⟩ := tabs_last t a1 hb
   have ok : cdOk t a1 := ⟨hb, hi2.1, hi2.2⟩
   have es : spec_weSteps.f t a1 = some ((tabsQ t a1).map flat) := by unfold spec_weSteps.f; rw [if_pos ok]
   have ei : impl_condense.f t a1 = some ((tabsQ t a1).map tS) := by unfold impl_condense.f; rw [if_pos ok]
   have w1 : wrap64 ((t.length : Int) - 1) = ((t.length - 1 : Nat) : Int) := by
    rw [show ((t.length : Int) - 1) = ((t.length - 1 : Nat) : Int) by omega]
    exact wrapN _ (by omega)
   have l1 : ((tabsQ t a1).map flat).length = t.length := by rw [List.length_map, hl]
   have l2 : ((tabsQ t a1).map tS).length = t.length := by rw [List.length_map, hl]
   have g1 : rd_L4 ((tabsQ t a1).map flat) ((t.length - 1 : Nat) : Int) = [qS q] := by
    unfold rd_L4
    rw [Int.toNat_natCast, List.getD_eq_getElem?_getD, List.getElem?_map, hq]
    rfl
   have g2 : rd_L5 ((tabsQ t a1).map tS) ((t.length - 1 : Nat) : Int) = [[qS q]] := by
    unfold rd_L5
    rw [Int.toNat_natCast, List.getD_eq_getElem?_getD, List.getElem?_map, hq]
    rfl
   refine ⟨(qS q).f0, (qS q).f1, true, Ev.bind (hb ▸ hg) (Ev.ite_pos rfl (Ev.some_bind (a := true) (by rw [l1In_eq, hi]) (Ev.ite_pos rfl (Ev.some_bind es ?_)))), ?_⟩
   ·rw [l1, w1, g1]
    refine Ev.ite_pos (by omega) (Ev.ite_pos (by omega) (Ev.ite_pos (by show (0 : Int) < 1; decide) (Ev.now _)))
   ·rw [hi] at e3
    rw [e3]
    show (impl_condense.f t a1).bind _ = _
    rw [ei]
    simp only [Option.bind_some]
    rw [l2, w1, g2, if_pos (by omega), if_pos (by omega), if_pos (show (0 : Int) < (([[qS q]] : List (List S25)).length : Int) from by show (0 : Int) < 1; decide), if_pos (show (0 : Int) < ((rd_L4 [[qS q]] 0).length : Int) from by show (0 : Int) < 1; decide)]
    rfl
theorem pureCondense (t : List (List Int)) (a1 : Int) (u : Int) (hu : Ev (fun k => laws_szIntSS.f k t 1048576) u) (hd : u < 0 ∨ fewRows t) : ∃ k, laws_FnExactCondense.f k t a1 = some true := by
 refine Ev.rounds ?_
 unfold laws_FnExactCondense.f
 refine Ev.bind hu ?_
 by_cases hn : u < 0
 ·exact Ev.ite_pos hn (Ev.now _)
 ·have hf := hd.resolve_left hn
  obtain ⟨a, b, c, e1, e2⟩ := bothCondense t a1 hf
  have ht := toIntSS_eq t hf.ok
  refine Ev.ite_neg hn (Ev.some_bind ht (Ev.bind e1 (Ev.some_bind ht (Ev.some_bind e2 (Ev.some_bind (a := true) (by unfold laws_eqRatio.f; rw [if_pos rfl, if_pos rfl]) (Ev.ite_pos rfl ?_))))))
  refine Ev.step (fun k => by rw [laws_FnExactCondense.j0]) ?_
  exact Ev.ite_neg (by simp) (Ev.some_bind ht (Ev.bind (eqIntSS t hf.ok) (Ev.ite_pos rfl (Ev.now _))))
theorem FnExactCondense (A : Option Addr) (cap : Nat) (l : List (List Int)) {W0 : World} (h : RowsIn W0 A l.length cap l) (a1 : Int) (_h1 : (Lit.int .i64 a1).wf = true) (W : World) (hW : W = W0) :
  Calls Try.prog 4 #[.slice A l.length cap, .int .i64 a1] W fun e w' => e = .returned (.bool true) ∧ Below W.heap.size W w' := by
 subst hW
 obtain ⟨t, ht, hd⟩ := szIntSS_in h
 obtain ⟨k, hk⟩ := pureCondense l a1 t ht hd
 exact laws_FnExactCondense.calls k A cap l a1 true W h.read h.le hk
end Go.Proofs.Ytkiloimggmpggaa.Law
