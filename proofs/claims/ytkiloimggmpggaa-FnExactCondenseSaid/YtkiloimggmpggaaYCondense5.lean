/- Texts of one chain, in build order. -/
import Derived.Test.YtkiloimggmpggaaYCondense4
namespace Go.Proofs.Ytkiloimggmpggaa.L
open Go.RowKit Go.Proofs.Ytkiloimggmpggaa Go.Proofs.Ytkiloimggmpggaa.P Go.Proofs.YtkiloimggmpggaaW.PrintWords Go.Proofs.YtkiloimggmpggaaW.PrintLast Go.Proofs.YtkiloimggmpggaaW.PrintMore

theorem wrapS (i : Nat) (h : i < 9223372036854775807) : wrap64 ((i : Int) + 1) = ((i + 1 : Nat) : Int) := by unfold wrap64; omega
theorem wrapI (i : Int) (h0 : -9223372036854775808 ≤ i) (h : i ≤ 9223372036854775807) : wrap64 i = i := by unfold wrap64; omega
theorem wrapP (i : Nat) (h0 : 1 ≤ i) (h : i < 9223372036854775807) : wrap64 ((i : Int) - 1) = ((i - 1 : Nat) : Int) := by unfold wrap64; omega
theorem rd_at (l : List Int) (i : Nat) (h : i < l.length) : rd l (i : Int) = l[i] := by simp [rd, List.getD_eq_getElem?_getD, h]
theorem rd1_at (l : List (List Int)) (i : Nat) (h : i < l.length) : rd_L1 l (i : Int) = l[i] := by simp [rd_L1, List.getD_eq_getElem?_getD, h]
theorem rd1_get (l : List (List Int)) (i : Nat) : rd_L1 l (i : Int) = l.getD i [] := by simp [rd_L1]
theorem Ev.ite_pos {α : Type} {c : Prop} [Decidable c] {a b : Nat → Option α} {r : α} (h : c) (k : Ev a r) : Ev (fun n => if c then a n else b n) r := by
 simp only [if_pos h]; exact k
theorem Ev.ite_neg {α : Type} {c : Prop} [Decidable c] {a b : Nat → Option α} {r : α} (h : ¬ c) (k : Ev b r) : Ev (fun n => if c then a n else b n) r := by
 simp only [if_neg h]; exact k
theorem Ev.some_bind {α β : Type} {o : Option α} {a : α} {f : Nat → α → Option β} {r : β} (h : o = some a) (k : Ev (fun n => f n a) r) : Ev (fun n => o.bind (f n)) r := by
 subst h; simp only [Option.bind_some]; exact k
theorem eqIntS_l0 (l : List Int) (hl : l.length ≤ 17592186044416) : ∀ (d i : Nat), i + d = l.length → Ev (fun k => laws_eqIntS.l0 k l l i) true := by
 intro d
 induction d with
 | zero =>
  intro i hi
  refine Ev.step (fun k => by rw [laws_eqIntS.l0]) ?_
  exact Ev.ite_neg (by omega) (Ev.now _)
 | succ d ih =>
  intro i hi
  refine Ev.step (fun k => by rw [laws_eqIntS.l0]) ?_
  refine Ev.ite_pos (by omega) (Ev.ite_pos (by omega) (Ev.ite_pos (by omega) (Ev.ite_pos rfl ?_)))
  rw [wrapS i (by omega)]
  exact ih (i + 1) (by omega)
theorem eqIntS (l : List Int) (hl : l.length ≤ 17592186044416) : Ev (fun k => laws_eqIntS.f k l l) true := by
 unfold laws_eqIntS.f
 exact Ev.ite_pos rfl (eqIntS_l0 l hl l.length 0 (by omega))
theorem eqIntSS_l0 (l : List (List Int)) (hl : rowsOk l) : ∀ (d i : Nat), i + d = l.length → Ev (fun k => laws_eqIntSS.l0 k l l i) true := by
 have hl1 := hl.1
 intro d
 induction d with
 | zero =>
  intro i hi
  refine Ev.step (fun k => by rw [laws_eqIntSS.l0]) ?_
  exact Ev.ite_neg (by omega) (Ev.now _)
 | succ d ih =>
  intro i hi
  refine Ev.step (fun k => by rw [laws_eqIntSS.l0]) ?_
  refine Ev.ite_pos (by omega) (Ev.ite_pos (by omega) (Ev.ite_pos (by omega) (Ev.bind (eqIntS _ (by rw [rd1_get]; exact hl.at_ i)) (Ev.ite_pos rfl ?_))))
  rw [wrapS i (by omega)]
  exact ih (i + 1) (by omega)
theorem eqIntSS (l : List (List Int)) (hl : rowsOk l) : Ev (fun k => laws_eqIntSS.f k l l) true := by
 unfold laws_eqIntSS.f
 exact Ev.ite_pos rfl (eqIntSS_l0 l hl l.length 0 (by omega))
theorem toIntSS_eq (l : List (List Int)) (hl : rowsOk l) : laws_toIntSS.f l = some l := by
 unfold laws_toIntSS.f
 rw [if_pos ⟨hl.1, List.all_eq_true.2 fun r hr => decide_eq_true (hl.2 r hr)⟩]
/-- Few rows, and short ones. -/
def fewRows (l : List (List Int)) : Prop := l.length ≤ 1048576 ∧ ∀ r ∈ l, r.length ≤ 1048576
theorem fewRows.ok {l : List (List Int)} (h : fewRows l) : rowsOk l := ⟨by have := h.1; omega, fun r hr => by have := h.2 r hr; omega⟩
theorem szIntSS_l0 (l : List (List Int)) (hl : l.length ≤ 1048576) (hr : ∀ r ∈ l, r.length ≤ 9223372036854775807) : ∀ (d i : Nat) (left : Int), i + d = l.length → 0 ≤ left → left ≤ 1048576 →
  ∃ t : Int, t ≤ 1048576 ∧ Ev (fun k => laws_szIntSS.l0 k l left i) t ∧ (t < 0 ∨ ∀ r ∈ l.drop i, r.length ≤ 1048576) := by
 intro d
 induction d with
 | zero =>
  intro i left hi h0 h1
  refine ⟨left, h1, ?_, .inr fun r hr => ?_⟩
  ·refine Ev.step (fun k => by rw [laws_szIntSS.l0]) ?_
   exact Ev.ite_neg (by omega) (Ev.now _)
  ·rw [List.drop_eq_nil_of_le (by omega)] at hr
   cases hr
 | succ d ih =>
  intro i left hi h0 h1
  have hri : l[i].length ≤ 9223372036854775807 := hr _ (List.getElem_mem (by omega))
  have hw : wrap64 (left - (l[i].length : Int)) = left - (l[i].length : Int) := wrapI _ (by omega) (by omega)
  by_cases hn : left - (l[i].length : Int) < 0
  ·refine ⟨-1, by omega, ?_, .inl (by omega)⟩
   refine Ev.step (fun k => by rw [laws_szIntSS.l0]) ?_
   refine Ev.ite_pos (by omega) (Ev.ite_pos (by omega) (Ev.some_bind (a := -1) ?_ (Ev.ite_pos (by omega) (Ev.now _))))
   rw [rd1_at l i (by omega)]
   unfold laws_szIntS.f
   rw [hw, if_pos hn]
  ·obtain ⟨t, ht1, ht, hd⟩ := ih (i + 1) (left - (l[i].length : Int)) (by omega) (by omega) (by omega)
   refine ⟨t, ht1, ?_, ?_⟩
   ·refine Ev.step (fun k => by rw [laws_szIntSS.l0]) ?_
    refine Ev.ite_pos (by omega) (Ev.ite_pos (by omega) (Ev.some_bind (a := left - (l[i].length : Int)) ?_ (Ev.ite_neg (by omega) ?_)))
    ·rw [rd1_at l i (by omega)]
     unfold laws_szIntS.f
     rw [hw, if_neg hn]
    ·rw [wrapS i (by omega)]
     exact ht
   ·rcases hd with hd | hd
    ·exact .inl hd
    ·refine .inr fun r hr2 => ?_
     rw [List.drop_eq_getElem_cons (by omega)] at hr2
     rcases List.mem_cons.1 hr2 with rfl | h2
     ·omega
     ·exact hd r h2
theorem szIntSS_at (l : List (List Int)) (left : Int) (h0 : 0 ≤ left) (h1 : left ≤ 1048576) (hlen : l.length ≤ 9223372036854775807) (hr : ∀ r ∈ l, r.length ≤ 9223372036854775807) : ∃ t : Int, t ≤ 1048576 ∧ Ev (fun k => laws_szIntSS.f k l left) t ∧ (t < 0 ∨ fewRows l) := by
 unfold laws_szIntSS.f
 have hw : wrap64 (left - (l.length : Int)) = left - (l.length : Int) := wrapI _ (by omega) (by omega)
 rw [hw]
 by_cases hn : left - (l.length : Int) < 0
 ·exact ⟨-1, by omega, Ev.ite_pos hn (Ev.now _), .inl (by omega)⟩
 ·obtain ⟨t, ht1, ht, hd⟩ := szIntSS_l0 l (by omega) hr l.length 0 (left - (l.length : Int)) (by omega) (by omega) (by omega)
  refine ⟨t, ht1, Ev.ite_neg hn ht, ?_⟩
  rcases hd with hd | hd
  ·exact .inl hd
  ·exact .inr ⟨by omega, by simpa using hd⟩
theorem szIntSS_in {w : World} {A : Option Addr} {n c : Nat} {l : List (List Int)} (h : RowsIn w A n c l) : ∃ t : Int, Ev (fun k => laws_szIntSS.f k l 1048576) t ∧ (t < 0 ∨ fewRows l) := by
 obtain ⟨t, _, ht, hd⟩ := szIntSS_at l 1048576 (by omega) (by omega) (by have := h.size; omega) (fun r hr => (h.rows r hr).1)
 exact ⟨t, ht, hd⟩

end Go.Proofs.Ytkiloimggmpggaa.L

namespace Go.Proofs.Ytkiloimggmpggaa.L
open Go.RowKit Go.Proofs.Ytkiloimggmpggaa Go.Proofs.Ytkiloimggmpggaa.P Go.Proofs.YtkiloimggmpggaaW.PrintWords Go.Proofs.YtkiloimggmpggaaW.PrintLast Go.Proofs.YtkiloimggmpggaaW.PrintMore
set_option linter.unusedVariables false

end Go.Proofs.Ytkiloimggmpggaa.L

namespace Go.Proofs.Ytkiloimggmpggaa.L
open Go.RowKit Go.Proofs.Ytkiloimggmpggaa Go.Proofs.Ytkiloimggmpggaa.P Go.Proofs.YtkiloimggmpggaaW.PrintWords Go.Proofs.YtkiloimggmpggaaW.PrintLast Go.Proofs.YtkiloimggmpggaaW.PrintMore
set_option linter.unusedVariables false

/-- The blocks from a up to b. -/
def Itv (a b : Nat) : Nat → Prop := fun k => a ≤ k ∧ k < b
/-- A table that lies in the blocks from a to b alone. -/
structure Own (B a b : Nat) (w : World) (v : Value) (T : List (List Int)) : Prop where
 s : Kd.S (Kd.slice 3 (Kd.int .i64)) 38 w B (Itv a b) v T
 lo : B ≤ a
 hi : b ≤ w.heap.size
theorem Own.new {B : Nat} {w w' : World} {v : Value} {T : List (List Int)} (h : Kd.S (Kd.slice 3 (Kd.int .i64)) 38 w' w.heap.size (fun _ => True) v T) (hB : B ≤ w.heap.size) : Own B w.heap.size w'.heap.size w' v T :=
 ⟨Kd.S_lower (Kd.S_mono (Kd.S_bound h) (fun _ hk => ⟨hk.2.1, hk.2.2.1⟩)) hB, hB, Nat.le_refl _⟩
theorem Own.below {B a b : Nat} {w w' : World} {v : Value} {T : List (List Int)} (h : Own B a b w v T) (hb : Below w.heap.size w w') : Own B a b w' v T :=
 ⟨Kd.S_kept h.s (Kept.of_below hb (fun _ => False)) (fun _ _ h => h), h.lo, Nat.le_trans h.hi hb.size⟩
theorem Own.slice {B a b : Nat} {w : World} {v : Value} {T : List (List Int)} (h : Own B a b w v T) : ∃ A c, v = .slice A T.length c ∧ T.length ≤ c := by
 obtain ⟨A, c, rfl⟩ := Kd.R_slice (Kd.S_R h.s)
 exact ⟨A, c, rfl, (Kd.R_reads' (Kd.S_R h.s)).2.1⟩
theorem Own.reads {B a b n c : Nat} {A : Option Addr} {w : World} {T : List (List Int)} (h : Own B a b w (.slice A n c) T) : Kd.C (Kd.slice 3 (Kd.int .i64)) w A T.length T := (Kd.R_reads' (Kd.S_R h.s)).2.2
end Go.Proofs.Ytkiloimggmpggaa.L
