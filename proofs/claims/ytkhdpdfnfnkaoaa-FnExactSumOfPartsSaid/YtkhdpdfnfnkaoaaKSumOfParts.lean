/- The program's SumOfParts answers as the reference's SumOfParts, for every table; the table stays as it was (the walk of the law FnExactSumOfParts; no condition). -/
import Derived.Test.YtkhdpdfnfnkaoaaLd
import Derived.Test.YtkhdpdfnfnkaoaaPx3
namespace Go.Proofs.Ytkhdpdfnfnkaoaa.Law
open Go.RowKit Go.Proofs.Ytkhdpdfnfnkaoaa Go.Proofs.Ytkhdpdfnfnkaoaa.P Go.Proofs.Ytkhdpdfnfnkaoaa.L Go.Proofs.YtkhdpdfnfnkaoaaW.PrintWords Go.Proofs.YtkhdpdfnfnkaoaaW.PrintLast Go.Proofs.YtkhdpdfnfnkaoaaW.PrintMore

def wsum (s : Int) (r : List Int) : Int := r.foldl (fun s x => wrap64 (s + x)) s
theorem sum_l0 (r : List Int) (hl : r.length ≤ 17592186044416) : ∀ (d i : Nat) (s : Int), i + d = r.length → Ev (fun k => impl_sum.l0 k s r r.length i) (wsum s (r.drop i)) := by
  intro d
  induction d with
  | zero =>
    intro i s hi
    refine Ev.step (fun k => by rw [impl_sum.l0]) ?_
    rw [List.drop_eq_nil_of_le (by omega)]
    exact Ev.ite_neg (by omega) (Ev.now _)
  | succ d ih =>
    intro i s hi
    refine Ev.step (fun k => by rw [impl_sum.l0]) ?_
    refine Ev.ite_pos (by omega) (Ev.ite_pos (by omega) (Ev.ite_pos (by omega) ?_))
    rw [rd_at r i (by omega), wrapS i (by omega), List.drop_eq_getElem_cons (by omega)]
    exact ih (i + 1) (wrap64 (s + r[i])) (by omega)
theorem sum_l1 (l : List (List Int)) (i : Nat) (hi : i ≤ 17592186044416) (r : List Int) (hl : r.length ≤ 17592186044416) (R : Int × Bool) : ∀ (d j : Nat) (s : Int), j + d = r.length → Ev (fun k => spec_SumOfParts.l0 k (wsum s (r.drop j)) l l.length ((i + 1 : Nat) : Int)) R → Ev (fun k => spec_SumOfParts.l1 k s l l.length i r r.length j) R := by
  intro d
  induction d with
  | zero =>
    intro j s hj hR
    refine Ev.step (fun k => by rw [spec_SumOfParts.l1]) ?_
    refine Ev.ite_neg (by omega) ?_
    rw [wrapS i (by omega)]
    rw [List.drop_eq_nil_of_le (by omega)] at hR
    exact hR
  | succ d ih =>
    intro j s hj hR
    refine Ev.step (fun k => by rw [spec_SumOfParts.l1]) ?_
    refine Ev.ite_pos (by omega) (Ev.ite_pos (by omega) (Ev.ite_pos (by omega) ?_))
    rw [rd_at r j (by omega), wrapS j (by omega)]
    rw [List.drop_eq_getElem_cons (by omega)] at hR
    exact ih (j + 1) (wrap64 (s + r[j])) (by omega) hR
theorem sum_l2 (l : List (List Int)) (hl : rowsOk l) : ∀ (d i : Nat) (s : Int), i + d = l.length → Ev (fun k => spec_SumOfParts.l0 k s l l.length i) (wsum s (l.drop i).flatten, true) := by
  have hl1 := hl.1
  intro d
  induction d with
  | zero =>
    intro i s hi
    refine Ev.step (fun k => by rw [spec_SumOfParts.l0]) ?_
    rw [List.drop_eq_nil_of_le (by omega)]
    exact Ev.ite_neg (by omega) (Ev.now _)
  | succ d ih =>
    intro i s hi
    refine Ev.step (fun k => by rw [spec_SumOfParts.l0]) ?_
    rw [rd1_get]
    refine Ev.ite_pos (by omega) (Ev.ite_pos (by omega) (Ev.ite_pos (by omega) ?_))
    refine sum_l1 l i (by omega) (l.getD i []) (hl.at_ i) _ (l.getD i []).length 0 s (by omega) ?_
    have := ih (i + 1) (wsum s ((l.getD i []).drop 0)) (by omega)
    rw [show wsum (wsum s ((l.getD i []).drop 0)) (l.drop (i + 1)).flatten = wsum s (l.drop i).flatten from by
      rw [List.drop_zero, List.drop_eq_getElem_cons (show i < l.length by omega), List.flatten_cons, wsum, wsum, wsum, List.foldl_append, List.getD_eq_getElem?_getD, List.getElem?_eq_getElem (by omega), Option.getD_some]] at this
    exact this
theorem goodRow (n : Int) (l : List (List Int)) (h : goodFrom n l 0 = true) (i : Nat) (hi : i < l.length) : rowGood n (l.getD i []) = true := by
  have := List.all_eq_true.1 h i (by rw [List.mem_range'_1]; omega)
  simp only [Bool.and_eq_true] at this
  exact this.1
theorem concat_desc (l : List (List Int)) (h : isDesc 6 l = true) : slices_Concat_int_int.f l = some l.flatten ∧ l.flatten.length ≤ 36 := by
  have h6 := isDesc_short 6 l (by omega) h
  have hr : ∀ i, i < l.length → (l.getD i []).length ≤ 6 := fun i hi => by have := (rowGood_facts (goodRow 6 l h i hi)).2.1; omega
  have hm : ∀ r ∈ l, r.length ≤ 6 := fun r hr' => by
    obtain ⟨i, hi, rfl⟩ := List.getElem_of_mem hr'
    have := hr i hi
    rwa [List.getD_eq_getElem?_getD, List.getElem?_eq_getElem hi] at this
  refine ⟨?_, ?_⟩
  · unfold slices_Concat_int_int.f
    rw [if_pos ⟨by omega, List.all_eq_true.2 fun r hr' => decide_eq_true (by have := hm r hr'; omega)⟩]
  · rw [List.length_flatten]
    have : ∀ (m : List (List Int)), (∀ r ∈ m, r.length ≤ 6) → (m.map List.length).sum ≤ 6 * m.length := by
      intro m
      induction m with
      | nil => intro _; simp
      | cons a m ih => intro h; have h1 := h a (by simp); have h2 := ih fun r hr => h r (by simp [hr]); simp only [List.map_cons, List.sum_cons, List.length_cons]; omega
    have := this l hm
    omega
theorem bothSumOfParts (l : List (List Int)) (hl : rowsOk l) : ∃ (b : Int) (c : Bool), Ev (fun k => spec_SumOfParts.f k l) (b, c) ∧ Ev (fun k => impl_SumOfParts.f k l) (b, c) := by
  unfold spec_SumOfParts.f impl_SumOfParts.f
  cases h : isDesc 6 l with
  | false => exact ⟨0, false, Ev.bind (h ▸ spec_isDesc_ev 6 l hl (by omega)) (Ev.ite_neg (by simp) (Ev.now _)), Ev.bind (h ▸ impl_isDesc_ev 6 l hl) (Ev.ite_neg (by simp) (Ev.now _))⟩
  | true =>
    obtain ⟨hc1, hc2⟩ := concat_desc l h
    have := sum_l0 l.flatten (by omega) l.flatten.length 0 0 (by omega)
    exact ⟨wsum 0 l.flatten, true, Ev.bind (h ▸ spec_isDesc_ev 6 l hl (by omega)) (Ev.ite_pos rfl (sum_l2 l hl l.length 0 0 (by omega))), Ev.bind (h ▸ impl_isDesc_ev 6 l hl) (Ev.ite_pos rfl (Ev.some_bind hc1 (Ev.bind (by unfold impl_sum.f; exact this) (Ev.now _))))⟩
theorem pureSumOfParts (l : List (List Int)) (t : Int) (ht : Ev (fun k => laws_szIntSS.f k l 1048576) t) (hd : t < 0 ∨ fewRows l) : ∃ k, laws_FnExactSumOfParts.f k l = some true := by
  refine Ev.rounds ?_
  unfold laws_FnExactSumOfParts.f
  refine Ev.bind ht ?_
  by_cases hn : t < 0
  · exact Ev.ite_pos hn (Ev.now _)
  · have hf := hd.resolve_left hn
    obtain ⟨b, c, h1, h2⟩ := bothSumOfParts l  hf.ok
    refine Ev.ite_neg hn (Ev.some_bind (toIntSS_eq l hf.ok) (Ev.bind h1 (Ev.some_bind (toIntSS_eq l hf.ok) (Ev.bind h2 (Ev.ite_pos rfl ?_)))))
    refine Ev.step (fun k => by rw [laws_FnExactSumOfParts.j0]) ?_
    exact Ev.ite_neg (by simp) (Ev.some_bind (toIntSS_eq l hf.ok) (Ev.bind (eqIntSS l hf.ok) (Ev.ite_pos rfl (Ev.now _))))
theorem FnExactSumOfParts (A : Option Addr) (cap : Nat) (l : List (List Int)) {W0 : World} (h : RowsIn W0 A l.length cap l) (W : World) (hW : W = W0) :
    Calls Try.prog 3 #[.slice A l.length cap] W fun e w' => e = .returned (.bool true) ∧ Below W.heap.size W w' := by
  subst hW
  obtain ⟨t, ht, hd⟩ := szIntSS_in h
  obtain ⟨k, hk⟩ := pureSumOfParts l  t ht hd
  exact laws_FnExactSumOfParts.calls k A cap l  true W h.read h.le hk
end Go.Proofs.Ytkhdpdfnfnkaoaa.Law
