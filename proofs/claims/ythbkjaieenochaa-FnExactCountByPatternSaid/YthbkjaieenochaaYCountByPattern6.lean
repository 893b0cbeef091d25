/- Texts of one chain, in build order. -/
import Derived.Test.YthbkjaieenochaaYCountByPattern5
namespace Go.Proofs.Ythbkjaieenochaa.L
open Go.RowKit Go.Proofs.Ythbkjaieenochaa Go.Proofs.Ythbkjaieenochaa.P Go.Proofs.YthbkjaieenochaaW.PrintWords Go.Proofs.YthbkjaieenochaaW.PrintLast Go.Proofs.YthbkjaieenochaaW.PrintMore

theorem wrapS (i : Nat) (h : i < 9223372036854775807) : wrap64 ((i : Int) + 1) = ((i + 1 : Nat) : Int) := by unfold wrap64; omega
theorem rd_at (l : List Int) (i : Nat) (h : i < l.length) : rd l (i : Int) = l[i] := by simp [rd, List.getD_eq_getElem?_getD, h]
theorem rd1_at (l : List (List Int)) (i : Nat) (h : i < l.length) : rd_L1 l (i : Int) = l[i] := by simp [rd_L1, List.getD_eq_getElem?_getD, h]
theorem rd1_get (l : List (List Int)) (i : Nat) : rd_L1 l (i : Int) = l.getD i [] := by simp [rd_L1]
theorem Ev.ite_pos {α : Type} {c : Prop} [Decidable c] {a b : Nat → Option α} {r : α} (h : c) (k : Ev a r) : Ev (fun n => if c then a n else b n) r := by
 simp only [if_pos h]; exact k
theorem Ev.ite_neg {α : Type} {c : Prop} [Decidable c] {a b : Nat → Option α} {r : α} (h : ¬ c) (k : Ev b r) : Ev (fun n => if c then a n else b n) r := by
 simp only [if_neg h]; exact k
theorem Ev.some_bind {α β : Type} {o : Option α} {a : α} {f : Nat → α → Option β} {r : β} (h : o = some a) (k : Ev (fun n => f n a) r) : Ev (fun n => o.bind (f n)) r := by
 subst h; simp only [Option.bind_some]; exact k
theorem eqIntS_l0 (l : List Int) (hl : l.length ≤ 17592186044416) : ∀ (d i : Nat), i + d = l.length → Ev (fun k => laws_eqIntS.l0 k l l i) true := by
 intro d
 induction d with
 | zero =>
  intro i hi
  refine Ev.step (fun k => by rw [laws_eqIntS.l0]) ?_
  exact Ev.ite_neg (by omega) (Ev.now _)
 | succ d ih =>
  intro i hi
  refine Ev.step (fun k => by rw [laws_eqIntS.l0]) ?_
  refine Ev.ite_pos (by omega) (Ev.ite_pos (by omega) (Ev.ite_pos (by omega) (Ev.ite_pos rfl ?_)))
  rw [wrapS i (by omega)]
  exact ih (i + 1) (by omega)
/-- Few rows, and short ones. -/
def fewRows (l : List (List Int)) : Prop := l.length ≤ 1048576 ∧ ∀ r ∈ l, r.length ≤ 1048576
theorem fewRows.ok {l : List (List Int)} (h : fewRows l) : rowsOk l := ⟨by have := h.1; omega, fun r hr => by have := h.2 r hr; omega⟩
end Go.Proofs.Ythbkjaieenochaa.L

namespace Go.Proofs.Ythbkjaieenochaa.L
open Go.RowKit Go.Proofs.Ythbkjaieenochaa Go.Proofs.Ythbkjaieenochaa.P Go.Proofs.YthbkjaieenochaaW.PrintWords Go.Proofs.YthbkjaieenochaaW.PrintLast Go.Proofs.YthbkjaieenochaaW.PrintMore
set_option linter.unusedVariables false

/-- A row numbered from n on. -/
def numR (len : Nat) (n : Nat) : List Int := (List.range len).map fun i => ((n + i : Nat) : Int)
theorem numR_length (len n : Nat) : (numR len n).length = len := by simp [numR]
theorem numR_at (len n i : Nat) (h : i < len) : rd (numR len n) (i : Int) = ((n + i : Nat) : Int) := by rw [rd_at _ _ (by rw [numR_length]; exact h)]; simp [numR]
/-- A row of which the first i are numbered. -/
def numS (l : List Int) (n i : Nat) : List Int := numR i n ++ l.drop i
theorem numS_length (l : List Int) (n i : Nat) (h : i ≤ l.length) : (numS l n i).length = l.length := by simp [numS, numR_length]; omega
theorem numS_set (l : List Int) (n i : Nat) (h : i < l.length) : (numS l n i).set i ((n + i : Nat) : Int) = numS l n (i + 1) := by
 unfold numS
 rw [List.set_append, if_neg (by rw [numR_length]; omega), numR_length, Nat.sub_self, List.drop_eq_getElem_cons h, List.set_cons_zero]
 simp [numR, List.range_succ]
theorem markIntS_l0 (l : List Int) (n : Nat) (hn : n + l.length ≤ 4611686018427387904) : ∀ (d i : Nat), i + d = l.length → Ev (fun k => laws_markIntS.l0 k (numS l n i) ((n + i : Nat) : Int) i) (((n + l.length : Nat) : Int), numR l.length n) := by
 intro d
 induction d with
 | zero =>
  intro i hi
  refine Ev.step (fun k => by rw [laws_markIntS.l0]) ?_
  rw [numS_length l n i (by omega)]
  have e : i = l.length := by omega
  subst e
  refine Ev.ite_neg (by omega) ?_
  unfold numS
  rw [List.drop_length, List.append_nil]
  exact Ev.now _
 | succ d ih =>
  intro i hi
  refine Ev.step (fun k => by rw [laws_markIntS.l0]) ?_
  rw [numS_length l n i (by omega), Int.toNat_natCast, numS_set l n i (by omega), wrapS (n + i) (by omega), wrapS i (by omega)]
  exact Ev.ite_pos (by omega) (Ev.ite_pos (by omega) (ih (i + 1) (by omega)))
theorem markIntS_ev (l : List Int) (n : Nat) (hn : n + l.length ≤ 4611686018427387904) : Ev (fun k => laws_markIntS.f k l n) (((n + l.length : Nat) : Int), numR l.length n) := by
 have := markIntS_l0 l n hn l.length 0 (by omega)
 simpa [numS, numR, laws_markIntS.f] using this
theorem heldIntS_l0 (len n : Nat) (hn : n + len ≤ 4611686018427387904) : ∀ (d i : Nat), i + d = len → Ev (fun k => laws_heldIntS.l0 k (numR len n) ((n + i : Nat) : Int) i) ((n + len : Nat) : Int) := by
 intro d
 induction d with
 | zero =>
  intro i hi
  refine Ev.step (fun k => by rw [laws_heldIntS.l0]) ?_
  rw [numR_length]
  have e : i = len := by omega
  subst e
  exact Ev.ite_neg (by omega) (Ev.now _)
 | succ d ih =>
  intro i hi
  refine Ev.step (fun k => by rw [laws_heldIntS.l0]) ?_
  rw [numR_length, numR_at len n i (by omega), wrapS (n + i) (by omega), wrapS i (by omega)]
  exact Ev.ite_pos (by omega) (Ev.ite_pos (by omega) (Ev.ite_pos rfl (ih (i + 1) (by omega))))
theorem heldIntS_ev (len n : Nat) (hn : n + len ≤ 4611686018427387904) : Ev (fun k => laws_heldIntS.f k (numR len n) n) ((n + len : Nat) : Int) := heldIntS_l0 len n hn len 0 (by omega)
end Go.Proofs.Ythbkjaieenochaa.L

namespace Go.Proofs.Ythbkjaieenochaa.L
open Go.RowKit Go.Proofs.Ythbkjaieenochaa Go.Proofs.Ythbkjaieenochaa.P Go.Proofs.YthbkjaieenochaaW.PrintWords Go.Proofs.YthbkjaieenochaaW.PrintLast Go.Proofs.YthbkjaieenochaaW.PrintMore
set_option linter.unusedVariables false

/-- The blocks from a up to b. -/
def Itv (a b : Nat) : Nat → Prop := fun k => a ≤ k ∧ k < b
/-- A table that lies in the blocks from a to b alone. -/
structure Own (B a b : Nat) (w : World) (v : Value) (T : List (List Int)) : Prop where
 s : Kd.S (Kd.slice 3 (Kd.int .i64)) 28 w B (Itv a b) v T
 lo : B ≤ a
 hi : b ≤ w.heap.size
theorem Own.new {B : Nat} {w w' : World} {v : Value} {T : List (List Int)} (h : Kd.S (Kd.slice 3 (Kd.int .i64)) 28 w' w.heap.size (fun _ => True) v T) (hB : B ≤ w.heap.size) : Own B w.heap.size w'.heap.size w' v T :=
 ⟨Kd.S_lower (Kd.S_mono (Kd.S_bound h) (fun _ hk => ⟨hk.2.1, hk.2.2.1⟩)) hB, hB, Nat.le_refl _⟩
theorem Own.below {B a b : Nat} {w w' : World} {v : Value} {T : List (List Int)} (h : Own B a b w v T) (hb : Below w.heap.size w w') : Own B a b w' v T :=
 ⟨Kd.S_kept h.s (Kept.of_below hb (fun _ => False)) (fun _ _ h => h), h.lo, Nat.le_trans h.hi hb.size⟩
theorem Own.kept {B a b c d : Nat} {w w' : World} {v : Value} {T : List (List Int)} (h : Own B a b w v T) (hk : Kept w w' (Itv c d)) (hd : b ≤ c ∨ d ≤ a) : Own B a b w' v T :=
 ⟨Kd.S_kept h.s hk (fun k h1 h2 => by have := h1.1; have := h1.2; have := h2.1; have := h2.2; omega), h.lo, Nat.le_trans h.hi hk.1⟩
theorem Own.slice {B a b : Nat} {w : World} {v : Value} {T : List (List Int)} (h : Own B a b w v T) : ∃ A c, v = .slice A T.length c ∧ T.length ≤ c := by
 obtain ⟨A, c, rfl⟩ := Kd.R_slice (Kd.S_R h.s)
 exact ⟨A, c, rfl, (Kd.R_reads' (Kd.S_R h.s)).2.1⟩
theorem Own.reads {B a b n c : Nat} {A : Option Addr} {w : World} {T : List (List Int)} (h : Own B a b w (.slice A n c) T) : Kd.C (Kd.slice 3 (Kd.int .i64)) w A T.length T := (Kd.R_reads' (Kd.S_R h.s)).2.2
theorem Own.reads' {B a b n c m : Nat} {A : Option Addr} {w : World} {T : List (List Int)} (h : Own B a b w (.slice A n c) T) (e : T.length = m) : Kd.C (Kd.slice 3 (Kd.int .i64)) w A m T := e ▸ h.reads
end Go.Proofs.Ythbkjaieenochaa.L

namespace Go.Proofs.Ythbkjaieenochaa.L
open Go.RowKit Go.Proofs.Ythbkjaieenochaa Go.Proofs.Ythbkjaieenochaa.P Go.Proofs.YthbkjaieenochaaW.PrintWords Go.Proofs.YthbkjaieenochaaW.PrintLast Go.Proofs.YthbkjaieenochaaW.PrintMore
set_option linter.unusedVariables false

/-- A row as an element, its own elements apart. -/
def apart {α : Type} (e : Nat) (d : Kd α) : Kd (List α) where
 sz := 1
 E := e :: d.E
 K := (Kd.slice e d).K
 M := fun w base ok xs cs => ∃ v, cs = [v] ∧ Kd.S d e w base ok v xs
 K_len := fun h => (Kd.slice e d).K_len h
 K_one := fun h => (Kd.slice e d).K_one h
 K_below := fun hb h => (Kd.slice e d).K_below hb h
 K_of_M := by
  rintro w base ok x cs ⟨v, rfl, h⟩
  exact (Kd.slice e d).K_of_M ⟨v, rfl, Kd.S_R h⟩
 M_mono := by
  rintro w base ok ok' x cs hok ⟨v, rfl, h⟩
  exact ⟨v, rfl, Kd.S_mono h hok⟩
 M_bound := by
  rintro w base ok x cs ⟨v, rfl, h⟩
  exact ⟨v, rfl, Kd.S_bound h⟩
 M_move := by
  rintro w w1 base ok x cs hm ⟨v, rfl, h⟩
  exact ⟨v, rfl, Kd.S_move h hm⟩
 M_lower := by
  rintro w base base' ok x cs hb ⟨v, rfl, h⟩
  exact ⟨v, rfl, Kd.S_lower h hb⟩
/-- Tables whose rows are apart, as elements. -/
def tabK : Kd (List (List Int)) := apart 28 (Kd.slice 3 (Kd.int .i64))
theorem tab_C {w : World} {A : Option Addr} {n : Nat} {L : List (List (List Int))} (h : tabK.C w A n L) : Kd.C (Kd.slice 28 (Kd.slice 3 (Kd.int .i64))) w A n L := Kd.C_imp (d := tabK) (d' := Kd.slice 28 (Kd.slice 3 (Kd.int .i64))) rfl (fun _ _ _ h => h) h

end Go.Proofs.Ythbkjaieenochaa.L

namespace Go.Proofs.Ythbkjaieenochaa.L
open Go.RowKit Go.Proofs.Ythbkjaieenochaa Go.Proofs.Ythbkjaieenochaa.P Go.Proofs.YthbkjaieenochaaW.PrintWords Go.Proofs.YthbkjaieenochaaW.PrintLast Go.Proofs.YthbkjaieenochaaW.PrintMore
set_option linter.unusedVariables false

/-- Few tables, and small ones. -/
def fewM (L : List (List (List Int))) : Prop := L.length ≤ 4096 ∧ ∀ T ∈ L, T.length ≤ 4096 ∧ ∀ r ∈ T, r.length ≤ 4096
theorem fewM.at_ {L : List (List (List Int))} (h : fewM L) (i : Nat) : fewRows (L.getD i []) ∧ (L.getD i []).length ≤ 4096 ∧ ∀ r ∈ L.getD i [], r.length ≤ 4096 := by
 rw [List.getD_eq_getElem?_getD]
 rcases Nat.lt_or_ge i L.length with hi | hi
 ·rw [List.getElem?_eq_getElem hi]
  have := h.2 _ (List.getElem_mem hi)
  exact ⟨⟨by have := this.1; show L[i].length ≤ _; omega, fun r hr => by have := this.2 r hr; omega⟩, this.1, this.2⟩
 ·rw [List.getElem?_eq_none hi]
  exact ⟨⟨by simp, fun r hr => by simp at hr⟩, by simp, fun r hr => by simp at hr⟩
/-- A list of tables that lies in the blocks from a to b alone. -/
structure OwnM (B a b : Nat) (w : World) (v : Value) (T : List (List (List Int))) : Prop where
 s : Kd.S tabK 22 w B (Itv a b) v T
 lo : B ≤ a
 hi : b ≤ w.heap.size
theorem OwnM.new {B : Nat} {w w' : World} {v : Value} {T : List (List (List Int))} (h : Kd.S tabK 22 w' w.heap.size (fun _ => True) v T) (hB : B ≤ w.heap.size) : OwnM B w.heap.size w'.heap.size w' v T :=
 ⟨Kd.S_lower (Kd.S_mono (Kd.S_bound h) (fun _ hk => ⟨hk.2.1, hk.2.2.1⟩)) hB, hB, Nat.le_refl _⟩
theorem OwnM.below {B a b : Nat} {w w' : World} {v : Value} {T : List (List (List Int))} (h : OwnM B a b w v T) (hb : Below w.heap.size w w') : OwnM B a b w' v T :=
 ⟨Kd.S_kept h.s (Kept.of_below hb (fun _ => False)) (fun _ _ h => h), h.lo, Nat.le_trans h.hi hb.size⟩
theorem OwnM.kept {B a b c d : Nat} {w w' : World} {v : Value} {T : List (List (List Int))} (h : OwnM B a b w v T) (hk : Kept w w' (Itv c d)) (hd : b ≤ c ∨ d ≤ a) : OwnM B a b w' v T :=
 ⟨Kd.S_kept h.s hk (fun k h1 h2 => by have := h1.1; have := h1.2; have := h2.1; have := h2.2; omega), h.lo, Nat.le_trans h.hi hk.1⟩
theorem OwnM.slice {B a b : Nat} {w : World} {v : Value} {T : List (List (List Int))} (h : OwnM B a b w v T) : ∃ A c, v = .slice A T.length c ∧ T.length ≤ c := by
 obtain ⟨A, c, rfl⟩ := Kd.R_slice (Kd.S_R h.s)
 exact ⟨A, c, rfl, (Kd.R_reads' (Kd.S_R h.s)).2.1⟩
theorem OwnM.reads {B a b n c : Nat} {A : Option Addr} {w : World} {T : List (List (List Int))} (h : OwnM B a b w (.slice A n c) T) : Kd.C (Kd.slice 28 (Kd.slice 3 (Kd.int .i64))) w A T.length T := tab_C (Kd.R_reads' (Kd.S_R h.s)).2.2
theorem OwnM.reads' {B a b n c m : Nat} {A : Option Addr} {w : World} {T : List (List (List Int))} (h : OwnM B a b w (.slice A n c) T) (e : T.length = m) : Kd.C (Kd.slice 28 (Kd.slice 3 (Kd.int .i64))) w A m T := e ▸ h.reads
/-- What is only read, and is elder than N. -/
structure Old {α : Type} (d : Kd α) (N : Nat) (w : World) (A : Option Addr) (T : List α) : Prop where
 f : Kd.F d w (fun k => k < N) A T.length T
 hi : N ≤ w.heap.size
theorem Old.new {α : Type} {d : Kd α} (hd : Kd.Heap d) {w : World} {A : Option Addr} {T : List α} (h : d.C w A T.length T) : Old d w.heap.size w A T := ⟨Kd.C_F hd h, Nat.le_refl _⟩
theorem Old.below {α : Type} {d : Kd α} {N : Nat} {w w' : World} {A : Option Addr} {T : List α} (h : Old d N w A T) (hb : Below w.heap.size w w') : Old d N w' A T := ⟨Kd.F_below h.f hb, Nat.le_trans h.hi hb.size⟩
theorem Old.kept {α : Type} {d : Kd α} {N a b : Nat} {w w' : World} {A : Option Addr} {T : List α} (h : Old d N w A T) (hk : Kept w w' (Itv a b)) (ha : N ≤ a) : Old d N w' A T := ⟨Kd.F_kept h.f hk (fun k hk h2 => by have := h2.1; omega), Nat.le_trans h.hi hk.1⟩
theorem Old.reads {α : Type} {d : Kd α} {N : Nat} {w : World} {A : Option Addr} {T : List α} (h : Old d N w A T) : d.C w A T.length T := Kd.F_now h.f
/-- A value that is only read comes back, and whether it counts. -/
def RetC {α : Type} (d : Kd α) (w : World) (T : List α) (b : Bool) (e : Ending) (w' : World) : Prop := ∃ A c, e = .returned (.tuple #[.slice A T.length c, .bool b]) ∧ T.length ≤ c ∧ d.C w' A T.length T ∧ Below w.heap.size w w'
def RetTR (w : World) (T : List Int) (b : Bool) (e : Ending) (w' : World) : Prop := ∃ v0_ : Value, e = .returned (.tuple #[v0_, .bool b]) ∧ Kd.R (Kd.int .i64) 3 w' w.heap.size (fun _ => True) v0_ T ∧ Below w.heap.size w w'
theorem RetC.of_R {α : Type} {d : Kd α} {w : World} {P : Nat → Prop} {T : List α} {b : Bool} {eT : Nat} {e : Ending} {w' : World} (h : ∃ v0_ : Value, e = .returned (.tuple #[v0_, .bool b]) ∧ Kd.R d eT w' w.heap.size P v0_ T ∧ Below w.heap.size w w') : RetC d w T b e w' := by
 obtain ⟨v, rfl, hN, hb⟩ := h
 obtain ⟨A, c, rfl⟩ := Kd.R_slice hN
 have := Kd.R_reads' hN
 exact ⟨A, c, rfl, this.2.1, this.2.2, hb⟩
end Go.Proofs.Ythbkjaieenochaa.L
