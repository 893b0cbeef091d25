/- The program's OrbitLength answers as the reference's OrbitLength, for every table; the table stays as it was (the walk of the law FnExactOrbitLength; no condition). -/
import Derived.Test.YtflhhbpgkjpbdaaLA
import Derived.Test.YtflhhbpgkjpbdaaHO
import Derived.Test.YtflhhbpgkjpbdaaPM
namespace Go.Proofs.Ytflhhbpgkjpbdaa.L
open Go.RowKit Go.Proofs.Ytflhhbpgkjpbdaa Go.Proofs.Ytflhhbpgkjpbdaa.P Go.Proofs.YtflhhbpgkjpbdaaW.PrintWords Go.Proofs.YtflhhbpgkjpbdaaW.PrintLast Go.Proofs.YtflhhbpgkjpbdaaW.PrintMore
set_option linter.unusedVariables false

theorem drop_eq_iff (a b : List Int) (i : Nat) (ha : i < a.length) (hb : i < b.length) : a.drop i = b.drop i ↔ rd a i = rd b i ∧ a.drop (i + 1) = b.drop (i + 1) := by
  rw [List.drop_eq_getElem_cons ha, List.drop_eq_getElem_cons hb, rd_at a i ha, rd_at b i hb, List.cons.injEq]
theorem spec_l1Same_l0 (a b : List Int) (hl : a.length ≤ 35184372088832) (hab : a.length = b.length) : ∀ (d i : Nat), i + d = a.length → Ev (fun k => spec_l1Same.l0 k a b a.length i) (decide (a.drop i = b.drop i)) := by
  intro d
  induction d with
  | zero =>
    intro i hi
    refine Ev.step (fun k => by rw [spec_l1Same.l0]) ?_
    rw [List.drop_eq_nil_of_le (by omega), List.drop_eq_nil_of_le (by omega)]
    exact Ev.ite_neg (by omega) (Ev.now _)
  | succ d ih =>
    intro i hi
    refine Ev.step (fun k => by rw [spec_l1Same.l0]) ?_
    refine Ev.ite_pos (by omega) (Ev.ite_pos (by omega) (Ev.ite_pos (by omega) (Ev.ite_pos (by omega) ?_)))
    have he := drop_eq_iff a b i (by omega) (by omega)
    by_cases h : rd a i = rd b i
    · refine Ev.ite_pos h ?_
      rw [wrapS i (by omega), show decide (a.drop i = b.drop i) = decide (a.drop (i + 1) = b.drop (i + 1)) from by rw [decide_eq_decide, he]; simp [h]]
      exact ih (i + 1) (by omega)
    · refine Ev.ite_neg h ?_
      rw [decide_eq_false (fun h2 => h (he.1 h2).1)]
      exact Ev.now _
theorem spec_l1Same_ev (a b : List Int) (hl : a.length ≤ 35184372088832) : Ev (fun k => spec_l1Same.f k a b) (decide (a = b)) := by
  unfold spec_l1Same.f
  by_cases h : (a.length : Int) = (b.length : Int)
  · refine Ev.ite_pos h ?_
    have := spec_l1Same_l0 a b hl (by omega) a.length 0 (by omega)
    simpa using this
  · refine Ev.ite_neg h ?_
    rw [decide_eq_false (fun e => h (by rw [e]))]
    exact Ev.now _
theorem heSame_l0 (a b : List (List Int)) (hl : fewRows a) (hab : a.length = b.length) : ∀ (d i : Nat), i + d = a.length → Ev (fun k => spec_heSame.l0 k b a a.length i) (decide (a.drop i = b.drop i)) := by
  have hl1 := hl.1
  intro d
  induction d with
  | zero =>
    intro i hi
    refine Ev.step (fun k => by rw [spec_heSame.l0]) ?_
    rw [List.drop_eq_nil_of_le (by omega), List.drop_eq_nil_of_le (by omega)]
    exact Ev.ite_neg (by omega) (Ev.now _)
  | succ d ih =>
    intro i hi
    have ha : i < a.length := by omega
    have hb : i < b.length := by omega
    refine Ev.step (fun k => by rw [spec_heSame.l0]) ?_
    refine Ev.ite_pos (by omega) (Ev.ite_pos (by omega) (Ev.ite_pos (by omega) (Ev.ite_pos (by omega) ?_)))
    rw [rd1_at a i ha, rd1_at b i hb, List.drop_eq_getElem_cons ha, List.drop_eq_getElem_cons hb]
    refine Ev.bind (spec_l1Same_ev a[i] b[i] (by have := hl.2 _ (List.getElem_mem ha); omega)) ?_
    by_cases h : a[i] = b[i]
    · rw [decide_eq_true h, wrapS i (by omega), show decide (a[i] :: a.drop (i + 1) = b[i] :: b.drop (i + 1)) = decide (a.drop (i + 1) = b.drop (i + 1)) from by rw [decide_eq_decide, List.cons.injEq]; simp [h]]
      exact Ev.ite_pos rfl (ih (i + 1) (by omega))
    · rw [decide_eq_false h, decide_eq_false (fun h2 => h (List.cons.inj h2).1)]
      exact Ev.ite_neg (by simp) (Ev.now _)
theorem heSame_ev (a b : List (List Int)) (hl : fewRows a) : Ev (fun k => spec_heSame.f k a b) (decide (a = b)) := by
  unfold spec_heSame.f
  by_cases h : (a.length : Int) = (b.length : Int)
  · refine Ev.ite_pos h ?_
    have := heSame_l0 a b hl (by omega) a.length 0 (by omega)
    simpa using this
  · refine Ev.ite_neg h ?_
    rw [decide_eq_false (fun e => h (by rw [e]))]
    exact Ev.now _
theorem own_ev_l0 (l : List (List Int)) (hf : fewRows l) : ∀ (d i : Nat), i + d = l.length → Ev (fun k => spec_gyOwn.l0 k (l.take i) l l.length i) l := by
  have hl := hf.1
  intro d
  induction d with
  | zero =>
    intro i hi
    refine Ev.step (fun k => by rw [spec_gyOwn.l0]) ?_
    rw [List.take_of_length_le (by omega)]
    exact Ev.ite_neg (by omega) (Ev.now _)
  | succ d ih =>
    intro i hi
    have hlt : i < l.length := by omega
    have hnext := ih (i + 1) (by omega)
    rw [List.take_succ_eq_append_getElem hlt] at hnext
    have hr := hf.2 _ (List.getElem_mem hlt)
    refine Ev.step (fun k => by rw [spec_gyOwn.l0]) ?_
    rw [rd1_at l i hlt, wrapS i (by omega)]
    refine Ev.ite_pos (by omega) (Ev.ite_pos (by omega) (Ev.ite_pos (by omega) ?_))
    refine Ev.some_bind (a := l[i]) (by unfold spec_l1Own.f; first | rfl | (rw [if_pos (by omega)]; rfl) | (simp; omega) | simp) ?_
    exact Ev.ite_pos (by rw [List.length_take]; omega) hnext
theorem own_ev (l : List (List Int)) (hf : fewRows l) : Ev (fun k => spec_gyOwn.f k l) l := own_ev_l0 l hf l.length 0 (by omega)
theorem copy_ev_l0 (l : List (List Int)) (hf : fewRows l) : ∀ (d i : Nat), i + d = l.length → Ev (fun k => impl_copyTable.l0 k (l.take i) l l.length i) l := by
  have hl := hf.1
  intro d
  induction d with
  | zero =>
    intro i hi
    refine Ev.step (fun k => by rw [impl_copyTable.l0]) ?_
    rw [List.take_of_length_le (by omega)]
    exact Ev.ite_neg (by omega) (Ev.now _)
  | succ d ih =>
    intro i hi
    have hlt : i < l.length := by omega
    have hnext := ih (i + 1) (by omega)
    rw [List.take_succ_eq_append_getElem hlt] at hnext
    have hr := hf.2 _ (List.getElem_mem hlt)
    refine Ev.step (fun k => by rw [impl_copyTable.l0]) ?_
    rw [rd1_at l i hlt, wrapS i (by omega)]
    refine Ev.ite_pos (by omega) (Ev.ite_pos (by omega) (Ev.ite_pos (by omega) ?_))
    refine Ev.some_bind (a := l[i]) (by unfold slices_Clone_int_int.f; rw [if_pos (by omega)]) ?_
    exact Ev.ite_pos (by rw [List.length_take]; omega) hnext
theorem copy_ev (l : List (List Int)) (hf : fewRows l) : Ev (fun k => impl_copyTable.f k l) l := copy_ev_l0 l hf l.length 0 (by omega)
theorem few_sign {l : List (List Int)} (hs : isSign l = true) : fewRows l := by
  obtain ⟨h1, h2, h3, _⟩ := isSign_facts hs
  refine ⟨by omega, fun r hr => ?_⟩
  obtain ⟨i, hi, rfl⟩ := List.getElem_of_mem hr
  have := h3 i hi
  rw [getD_at l [] i hi] at this
  omega
theorem next_eq {x : List (List Int)} (hs : isSign x = true) : spec_gyNext.f x = some (flip2 x 0 1) ∧ impl_gyrated.f x = some (flip2 x 0 1) := by
  unfold spec_gyNext.f impl_gyrated.f
  rw [if_pos hs]; exact ⟨rfl, rfl⟩
theorem orb_l0 (l : List (List Int)) : ∀ (d : Nat) (acc : List (List (List Int))) (x : List (List Int)), acc.length + d = 1000 → isSign x = true →
    ∃ r, Ev (fun k => spec_gyOrbit.l0 k l acc x) r ∧ Ev (fun k => impl_orbit.l0 k l acc x) r ∧ (r.2 = false → r.1 = []) := by
  intro d
  induction d with
  | zero =>
    intro acc x ha hs
    by_cases e : x = l
    · refine ⟨(acc, true), ?_, ?_, fun h => by cases h⟩
      · refine Ev.step (fun k => by rw [spec_gyOrbit.l0]) ?_
        refine Ev.bind (heSame_ev x l (few_sign hs)) ?_
        rw [decide_eq_true e]
        exact Ev.ite_pos rfl (Ev.now _)
      · refine Ev.step (fun k => by rw [impl_orbit.l0]) ?_
        exact Ev.some_bind (a := cmpT x l) rfl (Ev.ite_pos ((cmpT_zero x l).2 e) (Ev.now _))
    · refine ⟨([], false), ?_, ?_, fun _ => rfl⟩
      · refine Ev.step (fun k => by rw [spec_gyOrbit.l0]) ?_
        refine Ev.bind (heSame_ev x l (few_sign hs)) ?_
        rw [decide_eq_false e]
        exact Ev.ite_neg (by simp) (Ev.ite_pos (by omega) (Ev.now _))
      · refine Ev.step (fun k => by rw [impl_orbit.l0]) ?_
        exact Ev.some_bind (a := cmpT x l) rfl (Ev.ite_neg (fun h => e ((cmpT_zero x l).1 h)) (Ev.ite_pos (by omega) (Ev.now _)))
  | succ d ih =>
    intro acc x ha hs
    by_cases e : x = l
    · refine ⟨(acc, true), ?_, ?_, fun h => by cases h⟩
      · refine Ev.step (fun k => by rw [spec_gyOrbit.l0]) ?_
        refine Ev.bind (heSame_ev x l (few_sign hs)) ?_
        rw [decide_eq_true e]
        exact Ev.ite_pos rfl (Ev.now _)
      · refine Ev.step (fun k => by rw [impl_orbit.l0]) ?_
        exact Ev.some_bind (a := cmpT x l) rfl (Ev.ite_pos ((cmpT_zero x l).2 e) (Ev.now _))
    · obtain ⟨r, h1, h2, h3⟩ := ih (acc ++ [x]) (flip2 x 0 1) (by simp; omega) (flip2_sign hs 0 1)
      refine ⟨r, ?_, ?_, h3⟩
      · refine Ev.step (fun k => by rw [spec_gyOrbit.l0]) ?_
        refine Ev.bind (heSame_ev x l (few_sign hs)) ?_
        rw [decide_eq_false e]
        exact Ev.ite_neg (by simp) (Ev.ite_neg (by omega) (Ev.ite_pos (by omega) (Ev.some_bind (next_eq hs).1 h1)))
      · refine Ev.step (fun k => by rw [impl_orbit.l0]) ?_
        exact Ev.some_bind (a := cmpT x l) rfl (Ev.ite_neg (fun h => e ((cmpT_zero x l).1 h)) (Ev.ite_neg (by omega) (Ev.ite_pos (by omega) (Ev.some_bind (next_eq hs).2 h2))))
theorem orbit_ev (l : List (List Int)) (hf : fewRows l) : ∃ r, Ev (fun k => spec_GyrationOrbit.f k l) r ∧ Ev (fun k => impl_GyrationOrbit.f k l) r ∧ (r.2 = false → r.1 = []) := by
  unfold spec_GyrationOrbit.f impl_GyrationOrbit.f
  cases hs : isSign l with
  | false => exact ⟨([], false), Ev.bind (hs ▸ sgGood_ev l hf) (Ev.ite_neg (by simp) (Ev.now _)), Ev.some_bind (a := false) (by unfold impl_IsSignMatrix.f; rw [hs]) (Ev.ite_neg (by simp) (Ev.now _)), fun _ => rfl⟩
  | true =>
    obtain ⟨r, h1, h2, h3⟩ := orb_l0 l 999 [l] (flip2 l 0 1) rfl (flip2_sign hs 0 1)
    have e1 : Ev (fun k => spec_gyOrbit.f k l) r := by
      unfold spec_gyOrbit.f
      exact Ev.bind (own_ev l hf) (Ev.some_bind (next_eq hs).1 h1)
    have e2 : Ev (fun k => impl_orbit.f k l) r := by
      unfold impl_orbit.f
      exact Ev.bind (copy_ev l hf) (Ev.some_bind (next_eq hs).2 h2)
    refine ⟨r, Ev.bind (hs ▸ sgGood_ev l hf) (Ev.ite_pos rfl (Ev.bind e1 (Ev.now _))), Ev.some_bind (a := true) (by unfold impl_IsSignMatrix.f; rw [hs]) (Ev.ite_pos rfl (Ev.bind e2 (Ev.now _))), ?_⟩
    exact h3
end Go.Proofs.Ytflhhbpgkjpbdaa.L
namespace Go.Proofs.Ytflhhbpgkjpbdaa.Law
open Go.RowKit Go.Proofs.Ytflhhbpgkjpbdaa Go.Proofs.Ytflhhbpgkjpbdaa.P Go.Proofs.Ytflhhbpgkjpbdaa.L Go.Proofs.YtflhhbpgkjpbdaaW.PrintWords Go.Proofs.YtflhhbpgkjpbdaaW.PrintLast Go.Proofs.YtflhhbpgkjpbdaaW.PrintMore

theorem bothOrbitLength (l : List (List Int)) (hf : fewRows l) : ∃ (b : Int) (c : Bool), Ev (fun k => spec_OrbitLength.f k l) (b, c) ∧ Ev (fun k => impl_OrbitLength.f k l) (b, c) := by
  obtain ⟨⟨o, c⟩, h1, h2, h3⟩ := orbit_ev l hf
  unfold spec_OrbitLength.f impl_OrbitLength.f
  cases c with
  | true => exact ⟨o.length, true, Ev.bind h1 (Ev.ite_pos rfl (Ev.now _)), Ev.bind h2 (Ev.now _)⟩
  | false =>
    obtain rfl : o = [] := h3 rfl
    exact ⟨0, false, Ev.bind h1 (Ev.ite_neg (by simp) (Ev.now _)), Ev.bind h2 (Ev.now _)⟩
theorem pureOrbitLength (l : List (List Int)) (t : Int) (ht : Ev (fun k => laws_szIntSS.f k l 1048576) t) (hd : t < 0 ∨ fewRows l) : ∃ k, laws_FnExactOrbitLength.f k l = some true := by
  refine Ev.rounds ?_
  unfold laws_FnExactOrbitLength.f
  refine Ev.bind ht ?_
  by_cases hn : t < 0
  · exact Ev.ite_pos hn (Ev.now _)
  · have hf := hd.resolve_left hn
    obtain ⟨b, c, h1, h2⟩ := bothOrbitLength l hf
    refine Ev.ite_neg hn (Ev.some_bind (toIntSS_eq l hf.ok) (Ev.bind h1 (Ev.some_bind (toIntSS_eq l hf.ok) (Ev.bind h2 (Ev.ite_pos rfl ?_)))))
    refine Ev.step (fun k => by rw [laws_FnExactOrbitLength.j0]) ?_
    exact Ev.ite_neg (by simp) (Ev.some_bind (toIntSS_eq l hf.ok) (Ev.bind (eqIntSS l hf.ok) (Ev.ite_pos rfl (Ev.now _))))
theorem FnExactOrbitLength (A : Option Addr) (cap : Nat) (l : List (List Int)) {W0 : World} (h : RowsIn W0 A l.length cap l) (W : World) (hW : W = W0) :
    Calls Try.prog 10 #[.slice A l.length cap] W fun e w' => e = .returned (.bool true) ∧ Below W.heap.size W w' := by
  subst hW
  obtain ⟨t, ht, hd⟩ := szIntSS_in h
  obtain ⟨k, hk⟩ := pureOrbitLength l t ht hd
  exact laws_FnExactOrbitLength.calls k A cap l true W h.read h.le hk
end Go.Proofs.Ytflhhbpgkjpbdaa.Law
