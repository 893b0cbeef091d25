/- The program's SetSum answers as the reference's SetSum, for every list and every number; the list stays as it was (the pure statement of the row FnExactSetSum; no condition). -/
import Derived.Test.YtdcdkckpmkfjdaaYSetSum0
import Derived.Test.YtdcdkckpmkfjdaaWMore
namespace Go.Proofs.Ytdcdkckpmkfjdaa.Pure
open Go.RowKit Go.Proofs.Ytdcdkckpmkfjdaa Go.Proofs.Ytdcdkckpmkfjdaa.P Go.Proofs.Ytdcdkckpmkfjdaa.L Go.Proofs.YtdcdkckpmkfjdaaW.PrintWords Go.Proofs.YtdcdkckpmkfjdaaW.PrintLast Go.Proofs.YtdcdkckpmkfjdaaW.PrintMore
set_option maxRecDepth 100000

theorem weGiven_ev (xs : List Int) (q : Int) (hl : xs.length ≤ 1048576) : Ev (fun k => spec_weGiven.f k xs q) (inB xs.length 1 4 && ((xs.all fun x => inB x 0 4) && inB q 0 4)) := by
 unfold spec_weGiven.f spec_weSide.f
 rw [l1In_eq]
 refine Ev.some_bind rfl ?_
 cases h1 : inB (xs.length : Int) 1 4 with
 | false => exact Ev.ite_neg (by simp) (Ev.now _)
 | true =>
  refine Ev.ite_pos rfl (Ev.bind (l1All_ev xs 0 4 (by omega)) ?_)
  cases h2 : xs.all fun x => inB x 0 4 with
  | false => exact Ev.ite_neg (by simp) (Ev.now _)
  | true =>
   refine Ev.ite_pos rfl ?_
   rw [l1In_eq]
   exact Ev.some_bind rfl (Ev.now _)
theorem areSet_eq (xs : List Int) (q : Int) : impl_areSet.f xs q = some (inB xs.length 1 4 && ((xs.all fun x => inB x 0 4) && inB q 0 4)) := by
 unfold impl_areSet.f impl_isWeighted.f impl_within.f impl_areWithin.f
 cases h1 : inB (xs.length : Int) 1 4 with
 | false => simp
 | true =>
  cases h2 : xs.all fun x => inB x 0 4 with
  | false => simp
  | true => simp
theorem wg_es {n : Nat} (h0 : 1 ≤ n) (h1 : n ≤ 4) : wgX n = esX n := by
 have e : n = 1 ∨ n = 2 ∨ n = 3 ∨ n = 4 := by omega
 rcases e with rfl | rfl | rfl | rfl
 ·decide +kernel
 ·decide +kernel
 ·decide +kernel
 ·decide +kernel
theorem SetSum_l0 (xs : List Int) (q : Int) (L : List (List (List Int))) (hL : L.length ≤ 1000) (hg : ∀ T ∈ L, isSign T = true ∧ xs.length = T.length) : ∀ (d i : Nat) (acc : Int), i + d = L.length → Ev (fun k => spec_SetSum.l0 k xs q acc L L.length i) (smOf (swV xs q) (L.drop i) acc d, true) := by
 intro d
 induction d with
 | zero =>
  intro i acc hi
  refine Ev.step (fun k => by rw [spec_SetSum.l0]) ?_
  rw [List.drop_eq_nil_of_le (by omega)]
  exact Ev.ite_neg (by omega) (Ev.now _)
 | succ d ih =>
  intro i acc hi
  have hlt : i < L.length := by omega
  obtain ⟨hs, hx⟩ := hg L[i] (List.getElem_mem hlt)
  refine Ev.step (fun k => by rw [spec_SetSum.l0]) ?_
  refine Ev.ite_pos (by omega) (Ev.ite_pos (by omega) (Ev.ite_pos (by omega) ?_))
  rw [show rd_L2 L (i : Int) = L[i] by rw [rd2_get, List.getD_eq_getElem?_getD, List.getElem?_eq_getElem hlt]; rfl, List.drop_eq_getElem_cons hlt]
  refine Ev.bind (weSetWeight_ev L[i] hs xs q hx) ?_
  rw [wrapS i (by omega)]
  exact ih (i + 1) _ (by omega)
theorem SetSum_ev (xs : List Int) (q : Int) (hl : xs.length ≤ 1048576) : ∃ (b : Int) (c : Bool), Ev (fun k => spec_SetSum.f k xs q) (b, c) ∧ impl_SetSum.f xs q = some (b, c) := by
 unfold spec_SetSum.f impl_SetSum.f
 rw [areSet_eq]
 have hg := weGiven_ev xs q hl
 cases hb : (inB xs.length 1 4 && ((xs.all fun x => inB x 0 4) && inB q 0 4)) with
 | false => exact ⟨0, false, Ev.bind (hb ▸ hg) (Ev.ite_neg (by simp) (Ev.now _)), rfl⟩
 | true =>
  have hb2 := hb
  simp only [Bool.and_eq_true] at hb2
  obtain ⟨h0, h1⟩ := inB_true hb2.1
  have hn0 : 1 ≤ xs.length := by omega
  have hn1 : xs.length ≤ 4 := by omega
  have hgd := esGood_all hn0 hn1
  refine ⟨esSum (swV xs q) xs.length, true, Ev.bind (hb ▸ hg) (Ev.ite_pos rfl ?_), ?_⟩
  ·have e1 : spec_weAll.f (xs.length : Int) = some (esX xs.length) := by
    unfold spec_weAll.f
    rw [if_pos (by omega), Int.toNat_natCast, wg_es hn0 hn1]
   rw [e1]
   have hlen : (esX xs.length).length ≤ 1000 := by rw [← wg_es hn0 hn1]; exact (wg_all hn0 hn1).2
   exact Ev.some_bind rfl (SetSum_l0 xs q (esX xs.length) hlen (fun T hT => ⟨(esGood_at hgd hT).1, (esGood_at hgd hT).2.symm⟩) (esX xs.length).length 0 0 (by omega))
  ·rw [Option.bind_some, if_pos rfl, if_pos ⟨⟨hn0, hn1⟩, hb2.2.2⟩]
theorem pureSetSum (xs : List Int) (q : Int) : ∃ k, laws_FnExactSetSum.f k xs q = some true := by
 refine Ev.rounds ?_
 unfold laws_FnExactSetSum.f
 by_cases hx : (xs.length : Int) > 1048576
 ·exact Ev.ite_pos hx (Ev.now _)
 ·have hl : xs.length ≤ 1048576 := by omega
  refine Ev.ite_neg hx ?_
  obtain ⟨b, c, h1, h2⟩ := SetSum_ev xs q hl
  have hi := toIntS_eq xs (by omega)
  refine (Ev.some_bind hi (Ev.bind h1 (Ev.some_bind hi (Ev.some_bind h2 (Ev.ite_pos rfl ?_)))))
  refine Ev.step (fun k => by rw [laws_FnExactSetSum.j0]) ?_
  exact Ev.ite_neg (by simp) (Ev.some_bind hi (Ev.bind (eqIntS xs (by omega)) (Ev.ite_pos rfl (Ev.now _))))
theorem FnExactSetSum : laws_FnExactSetSum.Pure := by
 intro xs q
 intros
 exact pureSetSum xs q
end Go.Proofs.Ytdcdkckpmkfjdaa.Pure
