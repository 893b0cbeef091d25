/- The program's SetWeight answers as the reference's SetWeight, for every table, every list and every number; table and list stay as they were (the walk of the law FnExactSetWeight; no condition). -/
import Derived.Test.YtlpadkbpbmoliaaHP1
import Derived.Test.YtlpadkbpbmoliaaHP2
import Derived.Test.YtlpadkbpbmoliaaPx9
namespace Go.Proofs.Ytlpadkbpbmoliaa.Law
open Go.RowKit Go.Proofs.Ytlpadkbpbmoliaa Go.Proofs.Ytlpadkbpbmoliaa.P Go.Proofs.Ytlpadkbpbmoliaa.L Go.Proofs.YtlpadkbpbmoliaaW.PrintWords Go.Proofs.YtlpadkbpbmoliaaW.PrintLast Go.Proofs.YtlpadkbpbmoliaaW.PrintMore

theorem weGiven_ev (xs : List Int) (q : Int) (hl : xs.length ≤ 1048576) : Ev (fun k => spec_weGiven.f k xs q) (inB xs.length 1 4 && ((xs.all fun x => inB x 0 4) && inB q 0 4)) := by
  unfold spec_weGiven.f spec_weSide.f
  rw [l1In_eq]
  refine Ev.some_bind rfl ?_
  cases h1 : inB (xs.length : Int) 1 4 with
  | false => exact Ev.ite_neg (by simp) (Ev.now _)
  | true =>
    refine Ev.ite_pos rfl (Ev.bind (l1All_ev xs 0 4 (by omega)) ?_)
    cases h2 : xs.all fun x => inB x 0 4 with
    | false => exact Ev.ite_neg (by simp) (Ev.now _)
    | true =>
      refine Ev.ite_pos rfl ?_
      rw [l1In_eq]
      exact Ev.some_bind rfl (Ev.now _)
theorem areSet_eq (xs : List Int) (q : Int) : impl_areSet.f xs q = some (inB xs.length 1 4 && ((xs.all fun x => inB x 0 4) && inB q 0 4)) := by
  unfold impl_areSet.f impl_isWeighted.f impl_within.f impl_areWithin.f
  cases h1 : inB (xs.length : Int) 1 4 with
  | false => simp
  | true =>
    cases h2 : xs.all fun x => inB x 0 4 with
    | false => simp
    | true => simp
theorem bothSetWeight (l : List (List Int)) (xs : List Int) (q : Int) (hf : fewRows l) (hl : xs.length ≤ 1048576) : ∃ (b : Int) (c : Bool), Ev (fun k => spec_SetWeight.f k l xs q) (b, c) ∧ impl_SetWeight.f l xs q = some (b, c) := by
  unfold spec_SetWeight.f impl_SetWeight.f
  rw [areSet_eq]
  have hg := weGiven_ev xs q hl
  cases hs : isSign l with
  | false => exact ⟨0, false, Ev.bind (hs ▸ sgGood_ev l hf) (Ev.ite_neg (by simp) (Ev.now _)), by unfold impl_IsSignMatrix.f; rw [hs]; rfl⟩
  | true =>
    have e1 : impl_IsSignMatrix.f l = some true := by unfold impl_IsSignMatrix.f; rw [hs]
    rw [e1]
    cases hb : (inB xs.length 1 4 && ((xs.all fun x => inB x 0 4) && inB q 0 4)) with
    | false => exact ⟨0, false, Ev.bind (hs ▸ sgGood_ev l hf) (Ev.ite_pos rfl (Ev.bind (hb ▸ hg) (Ev.ite_neg (by simp) (Ev.now _)))), by simp⟩
    | true =>
      by_cases h4 : (xs.length : Int) = (l.length : Int)
      · have h5 : xs.length = l.length := by omega
        have hq : inB q 0 4 = true := by simp only [Bool.and_eq_true] at hb; exact hb.2.2
        have e2 : impl_setWeight.f l xs q = some (setW (trianM l) xs q l.length) := by unfold impl_setWeight.f; rw [if_pos (by rw [hs, hq, h5]; simp)]
        refine ⟨setW (trianM l) xs q l.length, true, Ev.bind (hs ▸ sgGood_ev l hf) (Ev.ite_pos rfl (Ev.bind (hb ▸ hg) (Ev.ite_pos rfl (Ev.ite_pos h4 (Ev.bind (weSetWeight_ev l hs xs q h5) (Ev.now _)))))), ?_⟩
        rw [e2]
        simp [h4]
      · exact ⟨0, false, Ev.bind (hs ▸ sgGood_ev l hf) (Ev.ite_pos rfl (Ev.bind (hb ▸ hg) (Ev.ite_pos rfl (Ev.ite_neg h4 (Ev.now _))))), by simp [h4]⟩
theorem pureSetWeight (l : List (List Int)) (xs : List Int) (q : Int) (t : Int) (ht : Ev (fun k => laws_szIntSS.f k l 1048576) t) (hd : t < 0 ∨ fewRows l) : ∃ k, laws_FnExactSetWeight.f k l xs q = some true := by
  refine Ev.rounds ?_
  unfold laws_FnExactSetWeight.f
  by_cases hx : (xs.length : Int) > 1048576
  · exact Ev.ite_pos hx (Ev.now _)
  · have hl : xs.length ≤ 1048576 := by omega
    refine Ev.ite_neg hx (Ev.bind ht ?_)
    by_cases hn : t < 0
    · exact Ev.ite_pos hn (Ev.now _)
    · have hf := hd.resolve_left hn
      obtain ⟨b, c, h1, h2⟩ := bothSetWeight l xs q hf hl
      have hi := toIntS_eq xs (by omega)
      refine Ev.ite_neg hn (Ev.some_bind (toIntSS_eq l hf.ok) (Ev.some_bind hi (Ev.bind h1 (Ev.some_bind (toIntSS_eq l hf.ok) (Ev.some_bind hi (Ev.some_bind h2 (Ev.ite_pos rfl ?_)))))))
      refine Ev.step (fun k => by rw [laws_FnExactSetWeight.j0]) ?_
      exact Ev.ite_neg (by simp) (Ev.some_bind (toIntSS_eq l hf.ok) (Ev.bind (eqIntSS l hf.ok) (Ev.ite_pos rfl (Ev.some_bind hi (Ev.bind (eqIntS xs (by omega)) (Ev.ite_pos rfl (Ev.now _)))))))
theorem FnExactSetWeight (A : Option Addr) (cap : Nat) (l : List (List Int)) {W0 : World} (h : RowsIn W0 A l.length cap l) (A1 : Option Addr) (c1 : Nat) (xs : List Int) (hr1 : Kd.C (Kd.int .i64) W0 A1 xs.length xs) (hc1 : xs.length ≤ c1) {P1 P2 : Prop} (_ : P1) (_ : P2) (q : Int) (_hq : (Lit.int .i64 q).wf = true) (W : World) (hW : W = W0) :
    Calls Try.prog 9 #[.slice A l.length cap, .slice A1 xs.length c1, .int .i64 q] W fun e w' => e = .returned (.bool true) ∧ Below W.heap.size W w' := by
  subst hW
  obtain ⟨t, ht, hd⟩ := szIntSS_in h
  obtain ⟨k, hk⟩ := pureSetWeight l xs q t ht hd
  exact laws_FnExactSetWeight.calls k A cap l A1 c1 xs q true W h.read h.le hr1 hc1 hk
end Go.Proofs.Ytlpadkbpbmoliaa.Law
