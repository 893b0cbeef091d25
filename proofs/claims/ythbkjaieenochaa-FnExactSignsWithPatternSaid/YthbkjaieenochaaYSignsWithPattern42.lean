/- The program's SignsWithPattern answers as the reference's SignsWithPattern, for every list; what comes back is the call's own, and the list stays as it was (the walk of the law FnExactSignsWithPattern; no condition). -/
import Derived.Test.YthbkjaieenochaaYSignsWithPattern41
namespace Go.Proofs.Ythbkjaieenochaa.L
open Go.RowKit Go.Proofs.Ythbkjaieenochaa Go.Proofs.Ythbkjaieenochaa.P Go.Proofs.YthbkjaieenochaaW.PrintWords Go.Proofs.YthbkjaieenochaaW.PrintLast Go.Proofs.YthbkjaieenochaaW.PrintMore
set_option linter.unusedVariables false
set_option linter.unusedSimpArgs false
set_option maxRecDepth 100000

theorem sw_1 : ((esX 1).all isSign && (esX 2).all isSign && (esX 3).all isSign && (esX 4).all isSign) = true := by decide +kernel
theorem sw_ok (n : Nat) (h0 : 1 ≤ n) (h1 : n ≤ 4) : SwOk n := by
 have h := sw_1
 simp only [Bool.and_eq_true] at h
 obtain ⟨⟨⟨a, b⟩, c⟩, d⟩ := h
 have e : n = 1 ∨ n = 2 ∨ n = 3 ∨ n = 4 := by omega
 rcases e with rfl | rfl | rfl | rfl
 ·exact ⟨fun T hT => List.all_eq_true.1 a T hT, es_few.1⟩
 ·exact ⟨fun T hT => List.all_eq_true.1 b T hT, es_few.2.1⟩
 ·exact ⟨fun T hT => List.all_eq_true.1 c T hT, es_few.2.2.1⟩
 ·exact ⟨fun T hT => List.all_eq_true.1 d T hT, es_few.2.2.2.1⟩
theorem rd2_atS (L : List (List (List Int))) (i : Nat) (h : i < L.length) : rd_L2 L (i : Int) = L[i] := by simp [rd_L2, List.getD_eq_getElem?_getD, h]
theorem trOwned_l1 (L : List (List (List Int))) (acc : List (List (List Int))) (n : Int) (i : Nat) (hi : i < 9223372036854775807) (T : List (List Int)) (hT : fewRows T) (hacc : acc.length ≤ 1000) (r : List (List (List Int)))
  (hnext : Ev (fun k => spec_trOwned.l0 k (acc ++ [T]) L n ((i + 1 : Nat) : Int)) r) : ∀ (d j : Nat), j + d = T.length → Ev (fun k => spec_trOwned.l1 k acc (T.take j) L n i T T.length j) r := by
 have hl := hT.1
 intro d
 induction d with
 | zero =>
  intro j hj
  refine Ev.step (fun k => by rw [spec_trOwned.l1]) ?_
  rw [List.take_of_length_le (by omega), wrapS i hi]
  exact Ev.ite_neg (by omega) (Ev.ite_pos (by omega) hnext)
 | succ d ih =>
  intro j hj
  have hlt : j < T.length := by omega
  have h2 := ih (j + 1) (by omega)
  rw [List.take_succ_eq_append_getElem hlt] at h2
  have hr := hT.2 _ (List.getElem_mem hlt)
  refine Ev.step (fun k => by rw [spec_trOwned.l1]) ?_
  rw [rd1_at T j hlt, wrapS j (by omega)]
  refine Ev.ite_pos (by omega) (Ev.ite_pos (by omega) (Ev.ite_pos (by omega) ?_))
  refine Ev.some_bind (a := T[j]) (by unfold spec_l1Own.f; first | rfl | (rw [if_pos (by omega)]; rfl) | (simp; omega) | simp) ?_
  exact Ev.ite_pos (by rw [List.length_take]; omega) h2
theorem trOwned_l0 (L : List (List (List Int))) (hL : ∀ T ∈ L, fewRows T) (hl : L.length ≤ 1000) : ∀ (d i : Nat), i + d = L.length → Ev (fun k => spec_trOwned.l0 k (L.take i) L L.length i) L := by
 intro d
 induction d with
 | zero =>
  intro i hi
  refine Ev.step (fun k => by rw [spec_trOwned.l0]) ?_
  rw [List.take_of_length_le (by omega)]
  exact Ev.ite_neg (by omega) (Ev.now _)
 | succ d ih =>
  intro i hi
  have hlt : i < L.length := by omega
  have h2 := ih (i + 1) (by omega)
  rw [List.take_succ_eq_append_getElem hlt] at h2
  refine Ev.step (fun k => by rw [spec_trOwned.l0]) ?_
  rw [rd2_atS L i hlt]
  refine Ev.ite_pos (by omega) (Ev.ite_pos (by omega) (Ev.ite_pos (by omega) ?_))
  exact trOwned_l1 L (L.take i) _ i (by omega) L[i] (hL _ (List.getElem_mem hlt)) (by rw [List.length_take]; omega) L h2 (L[i]).length 0 (by omega)
theorem trOwned_ev (L : List (List (List Int))) (hL : ∀ T ∈ L, fewRows T) (hl : L.length ≤ 1000) : Ev (fun k => spec_trOwned.f k L) L := trOwned_l0 L hL hl L.length 0 (by omega)
theorem swp_l0 (p : List Int) (All : List (List (List Int))) (hs : ∀ T ∈ All, isSign T = true) (hl : All.length ≤ 1000) : ∀ (d i : Nat), i + d = All.length → Ev (fun k => spec_SignsWithPattern.l0 k p (swL p All i) All All.length i) (swL p All All.length, true) := by
 intro d
 induction d with
 | zero =>
  intro i hi
  have : i = All.length := by omega
  subst this
  refine Ev.step (fun k => by rw [spec_SignsWithPattern.l0]) ?_
  exact Ev.ite_neg (by omega) (Ev.bind (trOwned_ev _ (fun T hT => few_signI (hs T (List.mem_of_mem_take (List.mem_filter.1 hT).1))) (swL_few p All hl _)) (Ev.now _))
 | succ d ih =>
  intro i hi
  have hlt : i < All.length := by omega
  have hsg := hs _ (List.getElem_mem hlt)
  have h2 := ih (i + 1) (by omega)
  rw [swL_step p All i All[i] (List.getElem?_eq_getElem hlt)] at h2
  have hfw := swL_few p All hl i
  refine Ev.step (fun k => by rw [spec_SignsWithPattern.l0]) ?_
  rw [rd2_atS All i hlt, wrapS i (by omega)]
  refine Ev.ite_pos (by omega) (Ev.ite_pos (by omega) (Ev.ite_pos (by omega) (Ev.bind (loOf_ev All[i] hsg) (Ev.bind (loPattern_ev hsg) (Ev.bind (same_ev (patM All[i]) p (patM_fewI hsg)) ?_)))))
  by_cases hq : patM All[i] = p
  ·rw [decide_eq_true hq, if_pos rfl] at h2
   rw [decide_eq_true hq]
   exact Ev.ite_pos rfl (Ev.ite_pos (by omega) h2)
  ·rw [decide_eq_false hq, if_neg (by simp), List.append_nil] at h2
   rw [decide_eq_false hq]
   exact Ev.ite_neg (by simp) h2
theorem SignsWithPattern_ev (p : List Int) (hl : p.length ≤ 1048576) : Ev (fun k => spec_SignsWithPattern.f k p) (swR p, swB p) := by
 unfold spec_SignsWithPattern.f
 refine Ev.bind (spec_loIsPattern_ev p (by omega)) ?_
 cases hi : isPat p with
 | false =>
  have e1 : swB p = false := by unfold swB; rw [hi]; rfl
  have e2 : swR p = [] := by unfold swR; rw [e1]; rfl
  rw [e1, e2]
  refine Ev.ite_neg (by simp) ?_
  refine Ev.step (fun k => by rw [spec_SignsWithPattern.j0]) ?_
  exact Ev.ite_pos rfl (Ev.now _)
 | true =>
  refine Ev.ite_pos rfl ?_
  obtain ⟨h1, h2, h3, _⟩ := isPat_facts hi
  by_cases h8 : p.length ≤ 8
  ·have e1 : swB p = true := by unfold swB; rw [hi, decide_eq_true h8]; rfl
   obtain ⟨m, hm⟩ : ∃ m, m = p.length / 2 := ⟨_, rfl⟩
   have e2 : swR p = swL p (esX m) (esX m).length := by unfold swR; rw [e1, if_pos rfl, swL_all, hm]
   have hO := sw_ok m (by omega) (by omega)
   have hq : (p.length : Int) / 2 = (m : Int) := by omega
   rw [e1, e2]
   refine Ev.step (fun k => by rw [spec_SignsWithPattern.j0]) ?_
   refine Ev.ite_neg (by rw [decide_eq_true_eq]; omega) ?_
   rw [hq, wrapI _ (by omega) (by omega)]
   refine Ev.some_bind (a := esX m) (by unfold spec_trAll.f; rw [if_pos ⟨rfl, rfl, by omega, by omega⟩, Int.toNat_natCast]) ?_
   have h := swp_l0 p (esX m) hO.sign hO.len (esX m).length 0 (by omega)
   unfold swL at h
   rw [List.take_zero] at h
   exact h
  ·have e1 : swB p = false := by unfold swB; rw [hi, decide_eq_false h8]; rfl
   have e2 : swR p = [] := by unfold swR; rw [e1]; rfl
   rw [e1, e2]
   refine Ev.step (fun k => by rw [spec_SignsWithPattern.j0]) ?_
   exact Ev.ite_pos (by rw [decide_eq_true_eq]; omega) (Ev.now _)
end Go.Proofs.Ythbkjaieenochaa.L

namespace Go.Proofs.Ythbkjaieenochaa.Law
open Go.RowKit Go.Proofs.Ythbkjaieenochaa Go.Proofs.Ythbkjaieenochaa.P Go.Proofs.Ythbkjaieenochaa.L Go.Proofs.YthbkjaieenochaaW.PrintWords Go.Proofs.YthbkjaieenochaaW.PrintLast Go.Proofs.YthbkjaieenochaaW.PrintMore
set_option linter.unusedVariables false

theorem sw_row {l : List (List Int)} (hs : isSign l = true) : l.length ≤ 6 ∧ ∀ r ∈ l, r.length ≤ 6 := by
 obtain ⟨h1, h2, h3, _⟩ := isSign_facts hs
 refine ⟨h2, fun r hr => ?_⟩
 obtain ⟨i, hi, rfl⟩ := List.getElem_of_mem hr
 have := h3 i hi
 rw [getD_at l [] i hi] at this
 omega
theorem few_swR (p : List Int) : fewM (swR p) := by
 have h : (swR p).length ≤ 1000 ∧ ∀ T ∈ swR p, isSign T = true := by
  unfold swR
  split
  ·rename_i hb
   unfold swB at hb
   rw [Bool.and_eq_true, decide_eq_true_eq] at hb
   obtain ⟨h1, h2, h3, _⟩ := isPat_facts hb.1
   have hO := sw_ok (p.length / 2) (by omega) (by omega)
   exact ⟨Nat.le_trans (List.length_filter_le _ _) hO.len, fun T hT => hO.sign T (List.mem_filter.1 hT).1⟩
  ·exact ⟨by simp, fun T hT => by simp at hT⟩
 exact ⟨by omega, fun T hT => ⟨by have := (sw_row (h.2 T hT)).1; omega, fun r hr => by have := (sw_row (h.2 T hT)).2 r hr; omega⟩⟩
theorem FnExactSignsWithPattern (A : Option Addr) (cap : Nat) (l : List Int) {W0 : World} (h : Kd.C (Kd.int .i64) W0 A l.length l) (hc : l.length ≤ cap) (_hy : l.length * 8 ≤ 140737488351232) (_hw : ∀ x ∈ l, (Lit.int .i64 x).wf = true) (W : World) (hW : W = W0) :
  Calls Try.prog 8 #[.slice A l.length cap] W fun e w' => e = .returned (.bool true) ∧ Below W.heap.size W w' := by
 subst hW
 by_cases hl : l.length ≤ 1048576
 ·obtain ⟨k, hk⟩ := (SignsWithPattern_ev l hl).rounds
  exact walkSignsWithPattern A cap l _ _ W h hc hl (few_swR l) (fun W' A' c' h' g' => (spec_SignsWithPattern.calls k A' c' l _ _ W' h' g' hk).mono fun e w' hh => RetC.of_N hh) (fun W' A' c' h' g' => impl_SignsWithPattern.callsG sw_ok l A' c' W' h' g' hl)
 ·exact skipSignsWithPattern A cap l W hl
end Go.Proofs.Ythbkjaieenochaa.Law
