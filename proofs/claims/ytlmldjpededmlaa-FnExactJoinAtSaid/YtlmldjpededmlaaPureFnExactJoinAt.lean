/- The program's JoinAt answers as the reference's JoinAt, for every list of numbers and every number; its argument stays as it was, and its result shares no memory (the pure statement of the row FnExactJoinAt; no condition). -/
import Derived.Test.YtlmldjpededmlaaLb
import Derived.Test.YtlmldjpededmlaaPx10
namespace Go.Proofs.Ytlmldjpededmlaa.Pure
open Go.RowKit Go.Proofs.Ytlmldjpededmlaa Go.Proofs.Ytlmldjpededmlaa.P Go.Proofs.Ytlmldjpededmlaa.L Go.Proofs.YtlmldjpededmlaaW.PrintWords Go.Proofs.YtlmldjpededmlaaW.PrintLast Go.Proofs.YtlmldjpededmlaaW.PrintMore

theorem own_some (l : List Int) (hl : l.length < 17592186044416) : spec_l1Own.f l = some l := by
  unfold spec_l1Own.f
  simp only [Option.bind_some, List.nil_append, List.length_nil, Nat.zero_add]
  rw [if_pos hl]
theorem clone_some (l : List Int) (hl : l.length < 17592186044416) : slices_Clone_int_int.f l = some l := by
  unfold slices_Clone_int_int.f
  rw [if_pos hl]

/-- The pattern joined at i. -/
def joinL (l : List Int) (i : Nat) : List Int :=
  let k : Nat := (i + 1) % l.length
  if rd l i = (k : Int) then l else (((l.set i (k : Int)).set k (i : Int)).set (rd l i).toNat (rd l k)).set (rd l k).toNat (rd l i)
theorem joinL_length (l : List Int) (i : Nat) : (joinL l i).length = l.length := by
  unfold joinL
  simp only
  split <;> simp
theorem next_eq (l : List Int) (i : Nat) (h2 : 2 ≤ l.length) (hi : i < l.length) (hb : l.length ≤ 12) : Int.tmod (wrap64 ((i : Int) + 1)) (l.length : Int) = (((i + 1) % l.length : Nat) : Int) := by
  rw [wrapS i (by omega), Int.tmod_eq_emod_of_nonneg (by omega)]
  omega
theorem syJoin_eq (l : List Int) (h : isPat l = true) (i : Nat) (hi : i < l.length) : spec_syJoin.f l i = some (joinL l i) := by
  obtain ⟨h2, hb, _, _, hf⟩ := isPat_facts h
  have hk : (i + 1) % l.length < l.length := Nat.mod_lt _ (by omega)
  have fi := hf i hi
  have fk := hf _ hk
  unfold spec_syJoin.f joinL
  rw [next_eq l i h2 hi hb, own_some l (by omega)]
  simp only [Option.bind_some, Int.toNat_natCast]
  rw [if_neg (by omega), if_pos (by omega), if_pos (by omega)]
  by_cases he : rd l i = (((i + 1) % l.length : Nat) : Int)
  · rw [if_pos he, if_pos he]
  · rw [if_neg he, if_neg he, if_pos (by omega), if_pos (by omega), if_pos (by omega), if_pos (by omega), if_pos fi.1, if_pos fi.2.1, if_pos fk.1, if_pos fk.2.1]
theorem joined_eq (l : List Int) (a b : Int) (hl : l.length < 17592186044416) (ha : 0 ≤ a) (ha2 : a < l.length) (hb : 0 ≤ b) (hb2 : b < l.length) : impl_joined.f l a b = some ((l.set a.toNat b).set b.toNat a) := by
  unfold impl_joined.f
  rw [clone_some l hl]
  simp only [Option.bind_some]
  rw [if_pos ha, if_pos ha2, if_pos hb, if_pos hb2]
theorem set4 (l : List Int) (i k a b : Nat) (x y z u : Int) (h1 : i ≠ a) (h2 : i ≠ b) (h3 : k ≠ a) (h4 : k ≠ b) : (((l.set a z).set b u).set i x).set k y = (((l.set i x).set k y).set a z).set b u := by
  rw [List.set_comm u x h2.symm, List.set_comm z x h1.symm, List.set_comm u y h4.symm, List.set_comm z y h3.symm]
theorem joinedAt_eq (l : List Int) (h : isPat l = true) (i : Nat) (hi : i < l.length) : impl_joinedAt.f l i = some (joinL l i) := by
  obtain ⟨h2, hb, _, _, hf⟩ := isPat_facts h
  have hk : (i + 1) % l.length < l.length := Nat.mod_lt _ (by omega)
  have hki : (i + 1) % l.length ≠ i := by
    by_cases hq : i + 1 < l.length
    · rw [Nat.mod_eq_of_lt hq]; omega
    · rw [show i + 1 = l.length by omega, Nat.mod_self]; omega
  have fi := hf i hi
  have fk := hf _ hk
  unfold impl_joinedAt.f joinL
  rw [next_eq l i h2 hi hb, clone_some l (by omega)]
  generalize (i + 1) % l.length = k at *
  simp only [Option.bind_some]
  rw [if_neg (by omega), if_pos (by omega), if_pos (by omega)]
  by_cases he : rd l i = (k : Int)
  · rw [if_pos he, if_pos he]
  · rw [if_neg he, if_neg he, if_pos (by omega), if_pos (by omega), joined_eq l _ _ (by omega) fi.1 fi.2.1 fk.1 fk.2.1]
    simp only [Option.bind_some]
    rw [joined_eq _ _ _ (by simp; omega) (by omega) (by simp; omega) (by omega) (by simp; omega)]
    simp only [Option.bind_some, Int.toNat_natCast]
    congr 1
    have e1 : rd l k ≠ (i : Int) := fun e => he (by rw [e] at fk; exact fk.2.2.2)
    exact set4 l i k (rd l i).toNat (rd l k).toNat _ _ _ _ (by omega) (by omega) (by omega) (by omega)

theorem join_both (l : List Int) (x : Int) (hl : l.length ≤ 1048576) (hx : -9223372036854775808 ≤ x ∧ x ≤ 9223372036854775807) :
    ∃ (r : List Int) (b : Bool), r.length ≤ l.length ∧ Ev (fun k => spec_JoinAt.f k l x) (r, b) ∧ Ev (fun k => impl_JoinAt.f k l x) (r, b) := by
  unfold spec_JoinAt.f impl_JoinAt.f impl_JoinWord.f
  have hl2 : l.length ≤ 35184372088832 := by omega
  cases h : isPat l with
  | false =>
    refine ⟨[], false, by simp, Ev.bind (h ▸ spec_loIsPattern_ev l hl2) (Ev.ite_neg (by simp) (Ev.now _)), ?_⟩
    refine Ev.bind (a := ([], false)) (Ev.bind (h ▸ impl_IsPattern_ev l hl2) (Ev.ite_neg (by simp) ?_)) (Ev.now _)
    refine Ev.step (fun k => by rw [impl_JoinWord.j0]) ?_
    exact Ev.ite_pos (by simp) (Ev.now _)
  | true =>
    obtain ⟨h2, hb, _, _, hf⟩ := isPat_facts h
    have hs : wrap64 ((l.length : Int) - 1) = (l.length : Int) - 1 := wrapI _ (by omega) (by omega)
    have hall : impl_areWithin.f [x] 0 (wrap64 ((l.length : Int) - 1)) = some (inB x 0 ((l.length : Int) - 1)) := by
      unfold impl_areWithin.f
      rw [hs]
      simp
    cases hi : inB x 0 ((l.length : Int) - 1) with
    | false =>
      refine ⟨[], false, by simp, Ev.bind (h ▸ spec_loIsPattern_ev l hl2) (Ev.ite_pos rfl ?_), ?_⟩
      · rw [l1In_eq, hs, hi]
        simp only [Option.bind_some]
        exact Ev.ite_neg (by simp) (Ev.now _)
      · refine Ev.bind (a := ([], false)) (Ev.bind (h ▸ impl_IsPattern_ev l hl2) (Ev.ite_pos rfl (Ev.ite_neg (by simp) ?_))) (Ev.now _)
        rw [hall, hi]
        simp only [Option.bind_some]
        refine Ev.step (fun k => by rw [impl_JoinWord.j0]) ?_
        exact Ev.ite_pos (by simp) (Ev.now _)
    | true =>
      have hb2 := (inB_iff _ _ _).1 hi
      obtain ⟨i, rfl⟩ := Int.eq_ofNat_of_zero_le hb2.1
      have hil : i < l.length := by omega
      refine ⟨joinL l i, true, by rw [joinL_length]; omega, Ev.bind (h ▸ spec_loIsPattern_ev l hl2) (Ev.ite_pos rfl ?_), ?_⟩
      · rw [l1In_eq, hs, hi]
        simp only [Option.bind_some]
        refine Ev.ite_pos (by simp) ?_
        rw [syJoin_eq l h i hil]
        simp only [Option.bind_some]
        exact Ev.now _
      · refine Ev.bind (a := (joinL l i, true)) (Ev.bind (h ▸ impl_IsPattern_ev l hl2) (Ev.ite_pos rfl (Ev.ite_neg (by simp) ?_))) (Ev.now _)
        rw [hall, hi]
        simp only [Option.bind_some]
        refine Ev.step (fun k => by rw [impl_JoinWord.j0]) ?_
        refine Ev.ite_neg (by simp) ?_
        rw [clone_some l (by omega)]
        simp only [Option.bind_some]
        refine Ev.step (fun k => by rw [impl_JoinWord.l0]) ?_
        refine Ev.ite_pos (by simp) (Ev.ite_pos (by simp) (Ev.ite_pos (by simp) ?_))
        rw [show rd [(i : Int)] 0 = (i : Int) from rfl, joinedAt_eq l h i hil]
        simp only [Option.bind_some]
        refine Ev.step (fun k => by rw [impl_JoinWord.l0]) ?_
        exact Ev.ite_neg (by simp [wrap64]) (Ev.now _)

theorem FnExactJoinAt : laws_FnExactJoinAt.Pure := by
  intro l x _ hl _ hx
  refine Ev.rounds ?_
  have hl2 : l.length ≤ 35184372088832 := by omega
  have hx2 : -9223372036854775808 ≤ x ∧ x ≤ 9223372036854775807 := by
    simp [Lit.wf, IntKind.min, IntKind.max, IntKind.bits, IntKind.signed] at hx
    omega
  unfold laws_FnExactJoinAt.f
  by_cases hb : (l.length : Int) > 1048576
  · exact Ev.ite_pos hb (Ev.now _)
  · refine Ev.ite_neg hb ?_
    obtain ⟨r, b, hr, h1, h2⟩ := join_both l x (by omega) hx2
    have hr2 : r.length ≤ 35184372088832 := by omega
    refine Ev.bind (toIntS l hl2) (Ev.bind h1 (Ev.bind (toIntS l hl2) (Ev.bind h2 (Ev.bind (eqIntS r hr2) (Ev.ite_pos rfl ?_)))))
    refine Ev.step (fun k => by rw [laws_FnExactJoinAt.j0]) ?_
    refine Ev.ite_neg (by simp) (Ev.bind (toIntS l hl2) (Ev.bind (eqIntS l hl2) (Ev.ite_pos rfl (Ev.bind (markIntS l 1 (by omega) (by omega)) (Ev.ite_neg (by simp; omega) (Ev.bind (eqIntS r hr2) (Ev.ite_pos rfl ?_)))))))
    refine Ev.step (fun k => by rw [laws_FnExactJoinAt.j1]) ?_
    refine Ev.ite_neg (by simp) (Ev.bind (markIntS r 1 (by omega) (by omega)) (Ev.bind (heldIntS 1 r.length (by omega) (by omega)) (Ev.ite_neg (by omega) (Ev.ite_pos rfl ?_))))
    refine Ev.bind (toIntS l hl2) (Ev.bind h2 (Ev.bind (eqIntS r hr2) (Ev.ite_pos rfl ?_)))
    refine Ev.step (fun k => by rw [laws_FnExactJoinAt.j2]) ?_
    exact Ev.ite_neg (by simp) (Ev.bind (heldIntS 1 r.length (by omega) (by omega)) (Ev.ite_neg (by omega) (Ev.ite_pos rfl (Ev.now _))))

end Go.Proofs.Ytlmldjpededmlaa.Pure
