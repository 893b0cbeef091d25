/- The program's PatternPeriod answers as the reference's PatternPeriod, for every list of numbers (the pure statement of the row FnExactPatternPeriod; no condition). -/
import Derived.Test.YtlmldjpededmlaaLb
import Derived.Test.YtlmldjpededmlaaLc
import Derived.Test.YtlmldjpededmlaaPx9
namespace Go.Proofs.Ytlmldjpededmlaa.Pure
open Go.RowKit Go.Proofs.Ytlmldjpededmlaa Go.Proofs.Ytlmldjpededmlaa.P Go.Proofs.Ytlmldjpededmlaa.L Go.Proofs.YtlmldjpededmlaaW.PrintWords Go.Proofs.YtlmldjpededmlaaW.PrintLast Go.Proofs.YtlmldjpededmlaaW.PrintMore

def turnAt (n : Nat) (by_ : Nat) (x : Int) : Int := Int.tmod (Int.tmod (x + by_) n + n) n
def turnFrom (l : List Int) (by_ : Nat) : Nat → Nat → List Int → List Int
  | 0, _, acc => acc
  | d + 1, i, acc => turnFrom l by_ d (i + 1) (acc.set (turnAt l.length by_ i).toNat (turnAt l.length by_ (rd l i)))
theorem turnAt_range (n by_ : Nat) (x : Int) (hn : 0 < n) (hx : 0 ≤ x) : 0 ≤ turnAt n by_ x ∧ turnAt n by_ x < n := by
  unfold turnAt
  have h1 : 0 ≤ Int.tmod (x + by_) n := Int.tmod_nonneg _ (by omega)
  exact ⟨Int.tmod_nonneg _ (by omega), Int.tmod_lt_of_pos _ (by omega)⟩
theorem turnAt_self (n : Nat) (x : Int) (hx : 0 ≤ x) (h : x < n) : turnAt n n x = x := by
  unfold turnAt
  have e : Int.tmod (x + n) n = x := by rw [Int.tmod_eq_emod_of_nonneg (by omega), Int.add_emod_right, Int.emod_eq_of_lt hx h]
  rw [e, e]
theorem turnFrom_length (l : List Int) (by_ : Nat) : ∀ (d i : Nat) (acc : List Int), (turnFrom l by_ d i acc).length = acc.length := by
  intro d
  induction d with
  | zero => intro i acc; rfl
  | succ d ih => intro i acc; rw [turnFrom, ih]; simp
theorem turnFrom_self (l : List Int) (ha : (l.all fun x => inB x 0 (l.length - 1)) = true) : ∀ (d i : Nat), i + d = l.length → turnFrom l l.length d i (l.take i ++ List.replicate d 0) = l := by
  intro d
  induction d with
  | zero => intro i hi; rw [turnFrom, List.take_of_length_le (by omega)]; simp
  | succ d ih =>
    intro i hi
    have hx := all_mem ha i (by omega)
    rw [turnFrom, turnAt_self _ _ (by omega) (by omega), turnAt_self _ _ (by omega) (by omega), Int.toNat_natCast]
    have e : (l.take i ++ List.replicate (d + 1) 0).set i (rd l i) = l.take (i + 1) ++ List.replicate d 0 := by
      rw [rd_at l i (by omega), List.set_append_right _ _ (by simp; omega), List.length_take, Nat.min_eq_left (by omega), Nat.sub_self, List.replicate_succ, List.set_cons_zero, List.take_succ_eq_append_getElem (by omega), List.append_assoc]
      rfl
    rw [e]
    exact ih (i + 1) (by omega)
def turned (l : List Int) (by_ : Nat) : List Int := turnFrom l by_ l.length 0 (List.replicate l.length 0)
theorem turned_length (l : List Int) (by_ : Nat) : (turned l by_).length = l.length := by unfold turned; rw [turnFrom_length]; simp
theorem turned_self (l : List Int) (ha : (l.all fun x => inB x 0 (l.length - 1)) = true) : turned l l.length = l := by
  have := turnFrom_self l ha l.length 0 (by omega)
  simpa [turned] using this
theorem turnAt_wrap (n by_ : Nat) (x : Int) (hn : 0 < n) (hn2 : n ≤ 100) (hb : by_ ≤ 100) (hx : 0 ≤ x) (hx2 : x ≤ 100) : Int.tmod (wrap64 ((Int.tmod (wrap64 (x + (by_ : Int))) (n : Int)) + (n : Int))) (n : Int) = turnAt n by_ x := by
  have h1 : 0 ≤ Int.tmod (x + by_) n := Int.tmod_nonneg _ (by omega)
  have h2 : Int.tmod (x + by_) n < n := Int.tmod_lt_of_pos _ (by omega)
  rw [wrapI (x + by_) (by omega) (by omega), wrapI (Int.tmod (x + by_) n + n) (by omega) (by omega)]
  rfl

theorem spec_loTurn_l0 (l : List Int) (ha : (l.all fun x => inB x 0 (l.length - 1)) = true) (hl : l.length ≤ 12) (by_ : Nat) (hb : by_ ≤ 12) : ∀ (d i : Nat) (acc : List Int), i + d = l.length → acc.length = l.length →
    Ev (fun k => spec_loTurn.l0 k by_ l.length acc l l.length i) (turnFrom l by_ d i acc) := by
  intro d
  induction d with
  | zero =>
    intro i acc hi hacc
    refine Ev.step (fun k => by rw [spec_loTurn.l0]) ?_
    exact Ev.ite_neg (by omega) (Ev.now _)
  | succ d ih =>
    intro i acc hi hacc
    have hx := all_mem ha i (by omega)
    refine Ev.step (fun k => by rw [spec_loTurn.l0]) ?_
    have hr := turnAt_range l.length by_ i (by omega) (by omega)
    rw [turnAt_wrap l.length by_ (i : Int) (by omega) (by omega) (by omega) (by omega) (by omega), turnAt_wrap l.length by_ (rd l i) (by omega) (by omega) (by omega) (by omega) (by omega)]
    refine Ev.ite_pos (by omega) (Ev.ite_pos (by omega) (Ev.ite_pos (by omega) (Ev.ite_neg (by omega) (Ev.ite_pos hr.1 (Ev.ite_pos (by omega) ?_)))))
    rw [wrapS i (by omega), turnFrom]
    exact ih (i + 1) _ (by omega) (by simp [hacc])
theorem spec_loTurn_ev (l : List Int) (ha : (l.all fun x => inB x 0 (l.length - 1)) = true) (hl : l.length ≤ 12) (by_ : Nat) (hb : by_ ≤ 12) : Ev (fun k => spec_loTurn.f k l by_) (turned l by_) := by
  unfold spec_loTurn.f
  refine Ev.ite_pos (by omega) (Ev.ite_pos (by omega) ?_)
  have := spec_loTurn_l0 l ha hl by_ hb l.length 0 (List.replicate l.length 0) (by omega) (by simp)
  simpa [turned] using this

theorem impl_turnedPattern_l0 (l : List Int) (ha : (l.all fun x => inB x 0 (l.length - 1)) = true) (hl : l.length ≤ 12) (by_ : Nat) (hb : by_ ≤ 12) : ∀ (d i : Nat) (acc : List Int), i + d = l.length → acc.length = l.length →
    Ev (fun k => impl_turnedPattern.l0 k by_ acc l.length l l.length i) (turnFrom l by_ d i acc) := by
  intro d
  induction d with
  | zero =>
    intro i acc hi hacc
    refine Ev.step (fun k => by rw [impl_turnedPattern.l0]) ?_
    exact Ev.ite_neg (by omega) (Ev.now _)
  | succ d ih =>
    intro i acc hi hacc
    have hx := all_mem ha i (by omega)
    refine Ev.step (fun k => by rw [impl_turnedPattern.l0]) ?_
    have hr := turnAt_range l.length by_ i (by omega) (by omega)
    rw [turnAt_wrap l.length by_ (i : Int) (by omega) (by omega) (by omega) (by omega) (by omega), turnAt_wrap l.length by_ (rd l i) (by omega) (by omega) (by omega) (by omega) (by omega)]
    refine Ev.ite_pos (by omega) (Ev.ite_pos (by omega) (Ev.ite_pos (by omega) (Ev.ite_neg (by omega) (Ev.ite_pos hr.1 (Ev.ite_pos (by omega) ?_)))))
    rw [wrapS i (by omega), turnFrom]
    exact ih (i + 1) _ (by omega) (by simp [hacc])
theorem impl_turnedPattern_ev (l : List Int) (ha : (l.all fun x => inB x 0 (l.length - 1)) = true) (hl : l.length ≤ 12) (by_ : Nat) (hb : by_ ≤ 12) : Ev (fun k => impl_turnedPattern.f k l by_) (turned l by_) := by
  unfold impl_turnedPattern.f
  refine Ev.ite_pos (by omega) (Ev.ite_pos (by omega) ?_)
  have := impl_turnedPattern_l0 l ha hl by_ hb l.length 0 (List.replicate l.length 0) (by omega) (by simp)
  simpa [turned] using this

theorem period_l0 (l : List Int) (ha : (l.all fun x => inB x 0 (l.length - 1)) = true) (hl : l.length ≤ 12) : ∀ (d i : Nat), 1 ≤ i → i + d = l.length →
    ∃ r, Ev (fun k => spec_PatternPeriod.l0 k l i) r ∧ Ev (fun k => impl_PatternPeriod.l0 k l i) r := by
  intro d
  induction d with
  | zero =>
    intro i h1 hi
    have e : turned l i = l := by rw [show i = l.length by omega]; exact turned_self l ha
    refine ⟨((i : Int), true), ?_, ?_⟩
    · refine Ev.step (fun k => by rw [spec_PatternPeriod.l0]) ?_
      refine Ev.bind (spec_loTurn_ev l ha hl i (by omega)) (Ev.bind (spec_l1Same_ev _ _ (by rw [turned_length]; omega)) (Ev.ite_pos (by rw [e]; simp) (Ev.now _)))
    · refine Ev.step (fun k => by rw [impl_PatternPeriod.l0]) ?_
      refine Ev.bind (impl_turnedPattern_ev l ha hl i (by omega)) (Ev.bind (slices_Equal_int_int_ev _ _ (by rw [turned_length]; omega)) (Ev.ite_pos (by rw [e]; simp) (Ev.now _)))
  | succ d ih =>
    intro i h1 hi
    by_cases h : turned l i = l
    · refine ⟨((i : Int), true), ?_, ?_⟩
      · refine Ev.step (fun k => by rw [spec_PatternPeriod.l0]) ?_
        refine Ev.bind (spec_loTurn_ev l ha hl i (by omega)) (Ev.bind (spec_l1Same_ev _ _ (by rw [turned_length]; omega)) (Ev.ite_pos (by rw [h]; simp) (Ev.now _)))
      · refine Ev.step (fun k => by rw [impl_PatternPeriod.l0]) ?_
        refine Ev.bind (impl_turnedPattern_ev l ha hl i (by omega)) (Ev.bind (slices_Equal_int_int_ev _ _ (by rw [turned_length]; omega)) (Ev.ite_pos (by rw [h]; simp) (Ev.now _)))
    · obtain ⟨r, h2, h3⟩ := ih (i + 1) (by omega) (by omega)
      refine ⟨r, ?_, ?_⟩
      · refine Ev.step (fun k => by rw [spec_PatternPeriod.l0]) ?_
        refine Ev.bind (spec_loTurn_ev l ha hl i (by omega)) (Ev.bind (spec_l1Same_ev _ _ (by rw [turned_length]; omega)) (Ev.ite_neg (by simpa using h) ?_))
        rw [wrapS i (by omega)]
        exact h2
      · refine Ev.step (fun k => by rw [impl_PatternPeriod.l0]) ?_
        refine Ev.bind (impl_turnedPattern_ev l ha hl i (by omega)) (Ev.bind (slices_Equal_int_int_ev _ _ (by rw [turned_length]; omega)) (Ev.ite_neg (by simpa using h) ?_))
        rw [wrapS i (by omega)]
        exact h3
theorem period_both (l : List Int) (hl : l.length ≤ 35184372088832) : ∃ r, Ev (fun k => spec_PatternPeriod.f k l) r ∧ Ev (fun k => impl_PatternPeriod.f k l) r := by
  unfold spec_PatternPeriod.f impl_PatternPeriod.f
  cases h : isPat l with
  | false =>
    exact ⟨(0, false), Ev.bind (h ▸ spec_loIsPattern_ev l hl) (Ev.ite_neg (by simp) (Ev.now _)), Ev.bind (h ▸ impl_IsPattern_ev l hl) (Ev.ite_neg (by simp) (Ev.now _))⟩
  | true =>
    have h' := h
    simp only [isPat, Bool.and_eq_true] at h'
    have hb := (inB_iff _ _ _).1 h'.2.1
    have he := of_decide_eq_true h'.1
    obtain ⟨r, h1, h2⟩ := period_l0 l h'.2.2.1 (by omega) (l.length - 1) 1 (by omega) (by omega)
    exact ⟨r, Ev.bind (h ▸ spec_loIsPattern_ev l hl) (Ev.ite_pos rfl h1), Ev.bind (h ▸ impl_IsPattern_ev l hl) (Ev.ite_pos rfl h2)⟩

theorem FnExactPatternPeriod : laws_FnExactPatternPeriod.Pure := by
  intro l _ hl _
  refine Ev.rounds ?_
  have hl2 : l.length ≤ 35184372088832 := by omega
  unfold laws_FnExactPatternPeriod.f
  by_cases hb : (l.length : Int) > 1048576
  · exact Ev.ite_pos hb (Ev.now _)
  · refine Ev.ite_neg hb ?_
    obtain ⟨r, h1, h2⟩ := period_both l hl2
    refine Ev.bind (toIntS l hl2) (Ev.bind h1 (Ev.bind (toIntS l hl2) (Ev.bind h2 (Ev.ite_pos rfl ?_))))
    refine Ev.step (fun k => by rw [laws_FnExactPatternPeriod.j0]) ?_
    refine Ev.ite_neg (by simp) ?_
    exact Ev.bind (toIntS l hl2) (Ev.bind (eqIntS l hl2) (Ev.ite_pos rfl (Ev.now _)))

end Go.Proofs.Ytlmldjpededmlaa.Pure
