import Derived.Test.YtlmldjpededmlaaPx3
import Derived.Test.YtlmldjpededmlaaPx4
import Derived.Test.YtlmldjpededmlaaPx5
namespace Go.Proofs.Ytlmldjpededmlaa.L
open Go.RowKit Go.Proofs.Ytlmldjpededmlaa Go.Proofs.Ytlmldjpededmlaa.P Go.Proofs.YtlmldjpededmlaaW.PrintWords Go.Proofs.YtlmldjpededmlaaW.PrintLast Go.Proofs.YtlmldjpededmlaaW.PrintMore

theorem wrapS (i : Nat) (h : i < 9223372036854775807) : wrap64 ((i : Int) + 1) = ((i + 1 : Nat) : Int) := by unfold wrap64; omega
theorem wrapI (i : Int) (h0 : -9223372036854775808 ≤ i) (h : i ≤ 9223372036854775807) : wrap64 i = i := by unfold wrap64; omega
theorem rd_at (l : List Int) (i : Nat) (h : i < l.length) : rd l (i : Int) = l[i] := by simp [rd, List.getD_eq_getElem?_getD, h]

/-- A test that does not speak of the rounds. -/
theorem Ev.ite_pos {α : Type} {c : Prop} [Decidable c] {a b : Nat → Option α} {r : α} (h : c) (k : Ev a r) : Ev (fun n => if c then a n else b n) r := by
  simp only [if_pos h]; exact k
theorem Ev.ite_neg {α : Type} {c : Prop} [Decidable c] {a b : Nat → Option α} {r : α} (h : ¬ c) (k : Ev b r) : Ev (fun n => if c then a n else b n) r := by
  simp only [if_neg h]; exact k

theorem toIntS_l0 (l : List Int) (hl : l.length ≤ 35184372088832) : ∀ (d i : Nat), i + d = l.length →
    Ev (fun k => laws_toIntS.l0 k l (l.take i ++ List.replicate d 0) i) l := by
  intro d
  induction d with
  | zero =>
    intro i hi
    refine Ev.step (fun k => by rw [laws_toIntS.l0]) ?_
    refine Ev.ite_neg (by omega) ?_
    have : l.take i ++ List.replicate 0 0 = l := by rw [List.take_of_length_le (by omega)]; simp
    rw [this]
    exact Ev.now _
  | succ d ih =>
    intro i hi
    refine Ev.step (fun k => by rw [laws_toIntS.l0]) ?_
    refine Ev.ite_pos (by omega) (Ev.ite_pos (by omega) (Ev.ite_pos (by simp; omega) ?_))
    have e : (l.take i ++ List.replicate (d + 1) 0).set (i : Int).toNat (rd l i) = l.take (i + 1) ++ List.replicate d 0 := by
      rw [Int.toNat_natCast, rd_at l i (by omega), List.set_append_right _ _ (by simp; omega), List.length_take, Nat.min_eq_left (by omega), Nat.sub_self, List.replicate_succ, List.set_cons_zero, List.take_succ_eq_append_getElem (by omega), List.append_assoc]
      rfl
    simp only [e]
    rw [wrapS i (by omega)]
    exact ih (i + 1) (by omega)
theorem toIntS (l : List Int) (hl : l.length ≤ 35184372088832) : Ev (fun k => laws_toIntS.f k l) l := by
  unfold laws_toIntS.f
  refine Ev.ite_pos (by omega) (Ev.ite_pos (by omega) ?_)
  have := toIntS_l0 l hl l.length 0 (by omega)
  simpa using this

theorem eqIntS_l0 (l : List Int) (hl : l.length ≤ 35184372088832) : ∀ (d i : Nat), i + d = l.length → Ev (fun k => laws_eqIntS.l0 k l l i) true := by
  intro d
  induction d with
  | zero =>
    intro i hi
    refine Ev.step (fun k => by rw [laws_eqIntS.l0]) ?_
    exact Ev.ite_neg (by omega) (Ev.now _)
  | succ d ih =>
    intro i hi
    refine Ev.step (fun k => by rw [laws_eqIntS.l0]) ?_
    refine Ev.ite_pos (by omega) (Ev.ite_pos (by omega) (Ev.ite_pos (by omega) (Ev.ite_pos rfl ?_)))
    rw [wrapS i (by omega)]
    exact ih (i + 1) (by omega)
theorem eqIntS (l : List Int) (hl : l.length ≤ 35184372088832) : Ev (fun k => laws_eqIntS.f k l l) true := by
  unfold laws_eqIntS.f
  exact Ev.ite_pos rfl (eqIntS_l0 l hl l.length 0 (by omega))

def markL (m : Int) (n : Nat) : List Int := (List.range n).map fun (i : Nat) => m + (i : Int)
theorem markL_length (m : Int) (n : Nat) : (markL m n).length = n := by simp [markL]
theorem markL_get (m : Int) (n i : Nat) (h : i < n) : rd (markL m n) i = m + i := by simp [rd, markL, List.getD_eq_getElem?_getD, h]

theorem markIntS_l0 (l : List Int) (m : Int) (hm : 0 ≤ m) (hb : m + l.length ≤ 9223372036854775807) : ∀ (d i : Nat) (x : List Int), i + d = l.length → x = markL m i ++ l.drop i →
    Ev (fun k => laws_markIntS.l0 k x (m + i) i) (m + l.length, markL m l.length) := by
  intro d
  induction d with
  | zero =>
    intro i x hi hx
    have hxl : x.length = l.length := by rw [hx, List.length_append, markL_length, List.length_drop]; omega
    refine Ev.step (fun k => by rw [laws_markIntS.l0]) ?_
    refine Ev.ite_neg (by omega) ?_
    have hil : i = l.length := by omega
    subst hil
    rw [hx]
    simp only [List.drop_length, List.append_nil]
    exact Ev.now _
  | succ d ih =>
    intro i x hi hx
    have hxl : x.length = l.length := by rw [hx, List.length_append, markL_length, List.length_drop]; omega
    refine Ev.step (fun k => by rw [laws_markIntS.l0]) ?_
    refine Ev.ite_pos (by omega) (Ev.ite_pos (by omega) ?_)
    rw [wrapS i (by omega), wrapI (m + i + 1) (by omega) (by omega), show m + (i : Int) + 1 = m + ((i + 1 : Nat) : Int) by omega]
    refine ih (i + 1) _ (by omega) ?_
    rw [hx, Int.toNat_natCast, List.set_append_right _ _ (by rw [markL_length]; omega), markL_length, Nat.sub_self, List.drop_eq_getElem_cons (by omega), List.set_cons_zero]
    simp [markL, List.range_succ]
theorem markIntS (l : List Int) (m : Int) (hm : 0 ≤ m) (hb : m + l.length ≤ 9223372036854775807) : Ev (fun k => laws_markIntS.f k l m) (m + l.length, markL m l.length) := by
  unfold laws_markIntS.f
  have := markIntS_l0 l m hm hb l.length 0 l (by omega) (by simp [markL])
  simpa using this

theorem heldIntS_l0 (m : Int) (n : Nat) (hm : 0 ≤ m) (hb : m + n ≤ 9223372036854775807) : ∀ (d i : Nat), i + d = n → Ev (fun k => laws_heldIntS.l0 k (markL m n) (m + i) i) (m + n) := by
  intro d
  induction d with
  | zero =>
    intro i hi
    refine Ev.step (fun k => by rw [laws_heldIntS.l0]) ?_
    refine Ev.ite_neg (by rw [markL_length]; omega) ?_
    have : i = n := by omega
    subst this
    exact Ev.now _
  | succ d ih =>
    intro i hi
    refine Ev.step (fun k => by rw [laws_heldIntS.l0]) ?_
    refine Ev.ite_pos (by rw [markL_length]; omega) (Ev.ite_pos (by omega) (Ev.ite_pos (markL_get m n i (by omega)) ?_))
    rw [wrapS i (by omega), wrapI (m + i + 1) (by omega) (by omega), show m + (i : Int) + 1 = m + ((i + 1 : Nat) : Int) by omega]
    exact ih (i + 1) (by omega)
theorem heldIntS (m : Int) (n : Nat) (hm : 0 ≤ m) (hb : m + n ≤ 9223372036854775807) : Ev (fun k => laws_heldIntS.f k (markL m n) m) (m + n) := by
  unfold laws_heldIntS.f
  have := heldIntS_l0 m n hm hb n 0 (by omega)
  simpa using this

end Go.Proofs.Ytlmldjpededmlaa.L
