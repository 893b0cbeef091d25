/- Texts of one chain, in build order. -/
import Derived.Test.YtdcdkckpmkfjdaaYBWeightSumSetSum2
import Derived.Test.YtdcdkckpmkfjdaaWMore
namespace Go.Proofs.Ytdcdkckpmkfjdaa.L
open Go.RowKit Go.Proofs.Ytdcdkckpmkfjdaa Go.Proofs.Ytdcdkckpmkfjdaa.P Go.Proofs.YtdcdkckpmkfjdaaW.PrintWords Go.Proofs.YtdcdkckpmkfjdaaW.PrintLast Go.Proofs.YtdcdkckpmkfjdaaW.PrintMore

theorem wrapS (i : Nat) (h : i < 9223372036854775807) : wrap64 ((i : Int) + 1) = ((i + 1 : Nat) : Int) := by unfold wrap64; omega
theorem rd_at (l : List Int) (i : Nat) (h : i < l.length) : rd l (i : Int) = l[i] := by simp [rd, List.getD_eq_getElem?_getD, h]
theorem rd1_at (l : List (List Int)) (i : Nat) (h : i < l.length) : rd_L1 l (i : Int) = l[i] := by simp [rd_L1, List.getD_eq_getElem?_getD, h]
theorem rd1_get (l : List (List Int)) (i : Nat) : rd_L1 l (i : Int) = l.getD i [] := by simp [rd_L1]
theorem Ev.ite_pos {α : Type} {c : Prop} [Decidable c] {a b : Nat → Option α} {r : α} (h : c) (k : Ev a r) : Ev (fun n => if c then a n else b n) r := by
 simp only [if_pos h]; exact k
theorem Ev.ite_neg {α : Type} {c : Prop} [Decidable c] {a b : Nat → Option α} {r : α} (h : ¬ c) (k : Ev b r) : Ev (fun n => if c then a n else b n) r := by
 simp only [if_neg h]; exact k
theorem Ev.some_bind {α β : Type} {o : Option α} {a : α} {f : Nat → α → Option β} {r : β} (h : o = some a) (k : Ev (fun n => f n a) r) : Ev (fun n => o.bind (f n)) r := by
 subst h; simp only [Option.bind_some]; exact k
theorem eqIntS_l0 (l : List Int) (hl : l.length ≤ 17592186044416) : ∀ (d i : Nat), i + d = l.length → Ev (fun k => laws_eqIntS.l0 k l l i) true := by
 intro d
 induction d with
 | zero =>
  intro i hi
  refine Ev.step (fun k => by rw [laws_eqIntS.l0]) ?_
  exact Ev.ite_neg (by omega) (Ev.now _)
 | succ d ih =>
  intro i hi
  refine Ev.step (fun k => by rw [laws_eqIntS.l0]) ?_
  refine Ev.ite_pos (by omega) (Ev.ite_pos (by omega) (Ev.ite_pos (by omega) (Ev.ite_pos rfl ?_)))
  rw [wrapS i (by omega)]
  exact ih (i + 1) (by omega)
theorem eqIntS (l : List Int) (hl : l.length ≤ 17592186044416) : Ev (fun k => laws_eqIntS.f k l l) true := by
 unfold laws_eqIntS.f
 exact Ev.ite_pos rfl (eqIntS_l0 l hl l.length 0 (by omega))
theorem toIntS_eq (l : List Int) (hl : l.length ≤ 17592186044416) : laws_toIntS.f l = some l := by
 unfold laws_toIntS.f
 rw [if_pos hl]

/-- Few rows, and short ones. -/
def fewRows (l : List (List Int)) : Prop := l.length ≤ 1048576 ∧ ∀ r ∈ l, r.length ≤ 1048576
theorem fewRows.ok {l : List (List Int)} (h : fewRows l) : rowsOk l := ⟨by have := h.1; omega, fun r hr => by have := h.2 r hr; omega⟩
end Go.Proofs.Ytdcdkckpmkfjdaa.L

namespace Go.Proofs.Ytdcdkckpmkfjdaa.L
open Go.RowKit Go.Proofs.Ytdcdkckpmkfjdaa Go.Proofs.Ytdcdkckpmkfjdaa.P Go.Proofs.YtdcdkckpmkfjdaaW.PrintWords Go.Proofs.YtdcdkckpmkfjdaaW.PrintLast Go.Proofs.YtdcdkckpmkfjdaaW.PrintMore
set_option linter.unusedVariables false

end Go.Proofs.Ytdcdkckpmkfjdaa.L

namespace Go.Proofs.Ytdcdkckpmkfjdaa.L
open Go.RowKit Go.Proofs.Ytdcdkckpmkfjdaa Go.Proofs.Ytdcdkckpmkfjdaa.P Go.Proofs.YtdcdkckpmkfjdaaW.PrintWords Go.Proofs.YtdcdkckpmkfjdaaW.PrintLast Go.Proofs.YtdcdkckpmkfjdaaW.PrintMore
set_option linter.unusedVariables false

/-- The blocks from a up to b. -/
def Itv (a b : Nat) : Nat → Prop := fun k => a ≤ k ∧ k < b
/-- A table that lies in the blocks from a to b alone. -/
structure Own (B a b : Nat) (w : World) (v : Value) (T : List (List Int)) : Prop where
 s : Kd.S (Kd.slice 3 (Kd.int .i64)) 22 w B (Itv a b) v T
 lo : B ≤ a
 hi : b ≤ w.heap.size
theorem Own.new {B : Nat} {w w' : World} {v : Value} {T : List (List Int)} (h : Kd.S (Kd.slice 3 (Kd.int .i64)) 22 w' w.heap.size (fun _ => True) v T) (hB : B ≤ w.heap.size) : Own B w.heap.size w'.heap.size w' v T :=
 ⟨Kd.S_lower (Kd.S_mono (Kd.S_bound h) (fun _ hk => ⟨hk.2.1, hk.2.2.1⟩)) hB, hB, Nat.le_refl _⟩
theorem Own.below {B a b : Nat} {w w' : World} {v : Value} {T : List (List Int)} (h : Own B a b w v T) (hb : Below w.heap.size w w') : Own B a b w' v T :=
 ⟨Kd.S_kept h.s (Kept.of_below hb (fun _ => False)) (fun _ _ h => h), h.lo, Nat.le_trans h.hi hb.size⟩
theorem Own.kept {B a b c d : Nat} {w w' : World} {v : Value} {T : List (List Int)} (h : Own B a b w v T) (hk : Kept w w' (Itv c d)) (hd : b ≤ c ∨ d ≤ a) : Own B a b w' v T :=
 ⟨Kd.S_kept h.s hk (fun k h1 h2 => by have := h1.1; have := h1.2; have := h2.1; have := h2.2; omega), h.lo, Nat.le_trans h.hi hk.1⟩
theorem Own.slice {B a b : Nat} {w : World} {v : Value} {T : List (List Int)} (h : Own B a b w v T) : ∃ A c, v = .slice A T.length c ∧ T.length ≤ c := by
 obtain ⟨A, c, rfl⟩ := Kd.R_slice (Kd.S_R h.s)
 exact ⟨A, c, rfl, (Kd.R_reads' (Kd.S_R h.s)).2.1⟩
end Go.Proofs.Ytdcdkckpmkfjdaa.L

namespace Go.Proofs.Ytdcdkckpmkfjdaa.L
open Go.RowKit Go.Proofs.Ytdcdkckpmkfjdaa Go.Proofs.Ytdcdkckpmkfjdaa.P Go.Proofs.YtdcdkckpmkfjdaaW.PrintWords Go.Proofs.YtdcdkckpmkfjdaaW.PrintLast Go.Proofs.YtdcdkckpmkfjdaaW.PrintMore
set_option linter.unusedVariables false

/-- A row as an element, its own elements apart. -/
def apart {α : Type} (e : Nat) (d : Kd α) : Kd (List α) where
 sz := 1
 E := e :: d.E
 K := (Kd.slice e d).K
 M := fun w base ok xs cs => ∃ v, cs = [v] ∧ Kd.S d e w base ok v xs
 K_len := fun h => (Kd.slice e d).K_len h
 K_one := fun h => (Kd.slice e d).K_one h
 K_below := fun hb h => (Kd.slice e d).K_below hb h
 K_of_M := by
  rintro w base ok x cs ⟨v, rfl, h⟩
  exact (Kd.slice e d).K_of_M ⟨v, rfl, Kd.S_R h⟩
 M_mono := by
  rintro w base ok ok' x cs hok ⟨v, rfl, h⟩
  exact ⟨v, rfl, Kd.S_mono h hok⟩
 M_bound := by
  rintro w base ok x cs ⟨v, rfl, h⟩
  exact ⟨v, rfl, Kd.S_bound h⟩
 M_move := by
  rintro w w1 base ok x cs hm ⟨v, rfl, h⟩
  exact ⟨v, rfl, Kd.S_move h hm⟩
 M_lower := by
  rintro w base base' ok x cs hb ⟨v, rfl, h⟩
  exact ⟨v, rfl, Kd.S_lower h hb⟩
/-- Tables whose rows are apart, as elements. -/
def tabK : Kd (List (List Int)) := apart 22 (Kd.slice 3 (Kd.int .i64))
end Go.Proofs.Ytdcdkckpmkfjdaa.L

namespace Go.Proofs.Ytdcdkckpmkfjdaa.L
open Go.RowKit Go.Proofs.Ytdcdkckpmkfjdaa Go.Proofs.Ytdcdkckpmkfjdaa.P Go.Proofs.YtdcdkckpmkfjdaaW.PrintWords Go.Proofs.YtdcdkckpmkfjdaaW.PrintLast Go.Proofs.YtdcdkckpmkfjdaaW.PrintMore
set_option linter.unusedVariables false

theorem rd2_get (L : List (List (List Int))) (i : Nat) : rd_L2 L (i : Int) = L.getD i [] := by simp [rd_L2]
/-- A list of tables that lies in the blocks from a to b alone. -/
structure OwnM (B a b : Nat) (w : World) (v : Value) (T : List (List (List Int))) : Prop where
 s : Kd.S tabK 36 w B (Itv a b) v T
 lo : B ≤ a
 hi : b ≤ w.heap.size
theorem OwnM.new {B : Nat} {w w' : World} {v : Value} {T : List (List (List Int))} (h : Kd.S tabK 36 w' w.heap.size (fun _ => True) v T) (hB : B ≤ w.heap.size) : OwnM B w.heap.size w'.heap.size w' v T :=
 ⟨Kd.S_lower (Kd.S_mono (Kd.S_bound h) (fun _ hk => ⟨hk.2.1, hk.2.2.1⟩)) hB, hB, Nat.le_refl _⟩
theorem OwnM.below {B a b : Nat} {w w' : World} {v : Value} {T : List (List (List Int))} (h : OwnM B a b w v T) (hb : Below w.heap.size w w') : OwnM B a b w' v T :=
 ⟨Kd.S_kept h.s (Kept.of_below hb (fun _ => False)) (fun _ _ h => h), h.lo, Nat.le_trans h.hi hb.size⟩
theorem OwnM.kept {B a b c d : Nat} {w w' : World} {v : Value} {T : List (List (List Int))} (h : OwnM B a b w v T) (hk : Kept w w' (Itv c d)) (hd : b ≤ c ∨ d ≤ a) : OwnM B a b w' v T :=
 ⟨Kd.S_kept h.s hk (fun k h1 h2 => by have := h1.1; have := h1.2; have := h2.1; have := h2.2; omega), h.lo, Nat.le_trans h.hi hk.1⟩
theorem OwnM.slice {B a b : Nat} {w : World} {v : Value} {T : List (List (List Int))} (h : OwnM B a b w v T) : ∃ A c, v = .slice A T.length c ∧ T.length ≤ c := by
 obtain ⟨A, c, rfl⟩ := Kd.R_slice (Kd.S_R h.s)
 exact ⟨A, c, rfl, (Kd.R_reads' (Kd.S_R h.s)).2.1⟩
/-- What is only read, and is elder than N. -/
structure Old {α : Type} (d : Kd α) (N : Nat) (w : World) (A : Option Addr) (T : List α) : Prop where
 f : Kd.F d w (fun k => k < N) A T.length T
 hi : N ≤ w.heap.size
theorem Old.new {α : Type} {d : Kd α} (hd : Kd.Heap d) {w : World} {A : Option Addr} {T : List α} (h : d.C w A T.length T) : Old d w.heap.size w A T := ⟨Kd.C_F hd h, Nat.le_refl _⟩
theorem Old.below {α : Type} {d : Kd α} {N : Nat} {w w' : World} {A : Option Addr} {T : List α} (h : Old d N w A T) (hb : Below w.heap.size w w') : Old d N w' A T := ⟨Kd.F_below h.f hb, Nat.le_trans h.hi hb.size⟩
theorem Old.kept {α : Type} {d : Kd α} {N a b : Nat} {w w' : World} {A : Option Addr} {T : List α} (h : Old d N w A T) (hk : Kept w w' (Itv a b)) (ha : N ≤ a) : Old d N w' A T := ⟨Kd.F_kept h.f hk (fun k hk h2 => by have := h2.1; omega), Nat.le_trans h.hi hk.1⟩
/-- A value that is only read comes back, and whether it counts. -/
def RetC {α : Type} (d : Kd α) (w : World) (T : List α) (b : Bool) (e : Ending) (w' : World) : Prop := ∃ A c, e = .returned (.tuple #[.slice A T.length c, .bool b]) ∧ T.length ≤ c ∧ d.C w' A T.length T ∧ Below w.heap.size w w'
theorem RetC.of_N {α : Type} {d : Kd α} {w : World} {P : Nat → Prop} {T : List α} {b : Bool} {eT : Nat} {e : Ending} {w' : World} (h : ∃ v0_ : Value, e = .returned (.tuple #[v0_, .bool b]) ∧ Kd.N d eT w' w.heap.size P v0_ T ∧ Below w.heap.size w w') : RetC d w T b e w' := by
 obtain ⟨v, rfl, hN, hb⟩ := h
 obtain ⟨A, c, rfl⟩ := Kd.N_slice hN
 have := Kd.N_reads' hN
 exact ⟨A, c, rfl, this.2.1, this.2.2, hb⟩
end Go.Proofs.Ytdcdkckpmkfjdaa.L
