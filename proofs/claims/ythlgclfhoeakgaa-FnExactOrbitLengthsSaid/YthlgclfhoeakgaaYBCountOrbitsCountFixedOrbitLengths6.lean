/- Texts of one chain, in build order. -/
import Derived.Test.YthlgclfhoeakgaaYBCountOrbitsCountFixedOrbitLengths5
import Derived.Test.YthlgclfhoeakgaaProg
import Derived.Below
import Derived.Deep.Draws
import Derived.Deep.AppendLies
import Derived.Maps.AppendAt
import Derived.OwnWalk
import Derived.Laws.BytesArg
import Derived.Laws.MakeOwn
import Derived.Laws.OwnMore
import Derived.Deep.OwnRows
import Derived.Tactics
import Derived.Lib.ConvBytes
import Derived.Laws.Slices
import Derived.WalkKit
import Derived.KernelRfl
import Derived.RowKit3
import Derived.Deep.LoopGhost
import Derived.Deep.QuietTactic
import Derived.BigQuiet
import Derived.WideLaws
import Derived.Deep.DeepCutAuto
import Derived.Deep.CutBlock
import Derived.Deep.RegionHeld3
import Derived.Laws.Rows
import Derived.Lib.AppendStr
import Derived.ArgAppend
import Derived.Laws.IdiomCopy
import Derived.OrdersHeld
import Derived.Laws.BitsLemmas
import Derived.RowKit
import Derived.Shelf.Abstract
import Derived.WalkSpells
import Derived.Laws.EntriesVeiled
namespace Go.Proofs.Ythlgclfhoeakgaa
open Go.RowKit Go.Proofs.YthlgclfhoeakgaaW.PrintWords Go.Proofs.YthlgclfhoeakgaaW.PrintLast Go.Proofs.YthlgclfhoeakgaaW.PrintMore
set_option linter.unusedVariables false
set_option linter.unusedSimpArgs false

/-- A call of g in a later world answers a bool, and turns nothing. -/
def Gives (P : Program) (g : Nat) (args : Array Value) (W : World) (res : Value) : Prop :=
 Calls P g args W fun e W' => e = .returned res ∧ Below W.heap.size W W'

end Go.Proofs.Ythlgclfhoeakgaa

namespace Go.Proofs.Ythlgclfhoeakgaa
open Go.RowKit Go.Proofs.YthlgclfhoeakgaaW.PrintWords Go.Proofs.YthlgclfhoeakgaaW.PrintLast Go.Proofs.YthlgclfhoeakgaaW.PrintMore
set_option linter.unusedVariables false
set_option linter.unusedSimpArgs false

def inB (n lo hi : Int) : Bool := decide (lo ≤ n) && decide (n ≤ hi)
theorem inB_iff (n lo hi : Int) : inB n lo hi = true ↔ lo ≤ n ∧ n ≤ hi := by simp [inB]

def impl_within.f (a0 a1 a2 : Int) : Option Bool := some (inB a0 a1 a2)
theorem impl_within.calls (a0 : Int) (a1 : Int) (a2 : Int) (r : Bool) (w : World) (h : impl_within.f a0 a1 a2 = some r) :
  Calls Try.prog 33 #[.int .i64 a0, .int .i64 a1, .int .i64 a2] w fun e w' => e = .returned (.bool r) ∧ Drawn0 w w' := by
 obtain rfl := Option.some.inj h
 clear h
 by_cases h1 : a1 ≤ a0
 ·have d1 : decide (a1 ≤ a0) = true := decide_eq_true h1
  by_cases h2 : a0 ≤ a2
  ·have d2 : decide (a0 ≤ a2) = true := decide_eq_true h2
   have hr : inB a0 a1 a2 = true := by simp [inB, h1, h2]
   rw [hr]; clear hr
   go_enter Try.func33, Try.ntmps33
   go_wp2
   go_ret
   exact ⟨by first | rfl | (simp; done) | (simp [*]; done), Drawn0.refl _⟩
  ·have d2 : decide (a0 ≤ a2) = false := decide_eq_false h2
   have hr : inB a0 a1 a2 = false := by simp [inB, h1]; omega
   rw [hr]; clear hr
   go_enter Try.func33, Try.ntmps33
   go_wp2
   go_ret
   exact ⟨by first | rfl | (simp; done) | (simp [*]; done), Drawn0.refl _⟩
 ·have d1 : decide (a1 ≤ a0) = false := decide_eq_false h1
  have hr : inB a0 a1 a2 = false := by simp [inB]; omega
  rw [hr]; clear hr
  go_enter Try.func33, Try.ntmps33
  go_wp2
  go_ret
  exact ⟨by first | rfl | (simp; done) | (simp [*]; done), Drawn0.refl _⟩

end Go.Proofs.Ythlgclfhoeakgaa

namespace Go.Proofs.Ythlgclfhoeakgaa
open Go.RowKit Go.Proofs.YthlgclfhoeakgaaW.PrintWords Go.Proofs.YthlgclfhoeakgaaW.PrintLast Go.Proofs.YthlgclfhoeakgaaW.PrintMore
set_option linter.unusedVariables false
set_option linter.unusedSimpArgs false

/-- A block of whole numbers. -/
def intBlk (W : World) (g : Nat) (l : List Int) : Prop := W.heap[g]? = some (.cells (l.map (Value.int .i64)).toArray 3 (0, 0))
/-- A block of rows, each in a block of its own. -/
def rowBlk (W : World) (g : Nat) (cs : List Value) : Prop := W.heap[g]? = some (.cells cs.toArray 34 (0, 0))

theorem intBlk_R {W : World} {base g : Nat} {ok : Nat → Prop} {l : List Int} (h : intBlk W g l) (hb : base ≤ g) (hok : ok g) (hl : l.length ≤ 1000000000000000) :
  Kd.R (Kd.int .i64) 3 W base ok (.slice (some ⟨g, 0, none⟩) l.length l.length) l := by
 refine ⟨fun k hk => ?_, l.map (Value.int .i64), ⟨by simp [Kd.int, Kd.scalar], .inr ⟨g, l.length, _, rfl, hb, h, Nat.le_refl _, by unfold maxLen; omega, by simp [Kd.int, Kd.scalar], by simp [Kd.int, Kd.scalar]; exact List.take_of_length_le (by simp)⟩⟩, ?_⟩
 ·have : g = k := by simpa [Value.ownBlock] using hk
  exact this ▸ hok
 ·refine ⟨by simp [Kd.int, Kd.scalar], fun j p hj => ?_⟩
  have hj2 : j < l.length := (List.getElem?_eq_some_iff.1 hj).1
  have hp : l[j] = p := (List.getElem?_eq_some_iff.1 hj).2
  show ((l.map (Value.int .i64)).drop (j * 1)).take 1 = [Value.int .i64 p]
  rw [Nat.mul_one, List.drop_eq_getElem_cons (by simpa using hj2)]
  simp [hp]

theorem rows_S {W : World} {base g0 : Nat} {gs : Nat → Nat} {xss : List (List Int)} (hn : xss.length ≤ 1000000000000000) (hb : base ≤ g0)
  (h0 : rowBlk W g0 ((List.range xss.length).map fun k => Value.slice (some ⟨gs k, 0, none⟩) (xss.getD k []).length (xss.getD k []).length))
  (hk : ∀ k, k < xss.length → base ≤ gs k ∧ gs k ≠ g0 ∧ (xss.getD k []).length ≤ 1000000000000000 ∧ intBlk W (gs k) (xss.getD k []))
  (hinj : ∀ k k', k < xss.length → k' < xss.length → gs k = gs k' → k = k') :
  Kd.S (Kd.slice 3 (Kd.int .i64)) 34 W base (fun _ => True) (.slice (some ⟨g0, 0, none⟩) xss.length xss.length) xss := by
 refine ⟨fun b => ((List.range xss.length).find? (fun k => gs k == b)).getD 0, fun k _ => trivial, (List.range xss.length).map fun k => Value.slice (some ⟨gs k, 0, none⟩) (xss.getD k []).length (xss.getD k []).length, ?_, ?_⟩
 ·rw [List.length_zipIdx]
  exact ⟨by simp [Kd.tag, Kd.slice], .inr ⟨g0, xss.length, _, rfl, hb, h0, Nat.le_refl _, by unfold maxLen; omega, by simp [Kd.tag, Kd.slice], by simp [Kd.tag, Kd.slice]; exact List.take_of_length_le (by simp)⟩⟩
 ·refine ⟨by simp [Kd.tag, Kd.slice], fun j p hj => ?_⟩
  have hj2 : j < xss.length := by have := (List.getElem?_eq_some_iff.1 hj).1; simpa using this
  have hp : p = (xss[j], j) := by
   have := (List.getElem?_eq_some_iff.1 hj).2
   rw [← this]; simp
  subst hp
  obtain ⟨h1, h2, h3, h4⟩ := hk j hj2
  have hg : xss.getD j [] = xss[j] := by simp [List.getD_eq_getElem?_getD, hj2]
  rw [hg] at h3 h4
  have hf : ((List.range xss.length).find? (fun k => gs k == gs j)).getD 0 = j := by
   cases hq : (List.range xss.length).find? (fun k => gs k == gs j) with
   | none =>
    have := List.find?_eq_none.1 hq j (by simpa using hj2)
    simp at this
   | some k =>
    have hm := List.mem_of_find?_eq_some hq
    have hs := List.find?_some hq
    exact hinj k j (by simpa using hm) hj2 (by simpa using hs)
  refine ⟨Value.slice (some ⟨gs j, 0, none⟩) xss[j].length xss[j].length, ?_, intBlk_R h4 h1 ⟨⟨trivial, by simp [Value.ownBlock, h2]⟩, hf⟩ h3⟩
  show (((List.range xss.length).map fun k => Value.slice (some ⟨gs k, 0, none⟩) (xss.getD k []).length (xss.getD k []).length).drop (j * 1)).take 1 = _
  rw [Nat.mul_one, List.drop_eq_getElem_cons (by simpa using hj2)]
  simp [hj2]

/-- A table of whole numbers of the call's own: each row in a block of its own. -/
structure MTab (W : World) (B g0 : Nat) (gs : Nat → Nat) (T : List (List Int)) : Prop where
 ge : B ≤ g0
 top : rowBlk W g0 ((List.range T.length).map fun k => Value.slice (some ⟨gs k, 0, none⟩) (T.getD k []).length (T.getD k []).length)
 each : ∀ k, k < T.length → B ≤ gs k ∧ gs k ≠ g0 ∧ intBlk W (gs k) (T.getD k [])
 inj : ∀ k k', k < T.length → k' < T.length → gs k = gs k' → k = k'
theorem MTab.below {W W' : World} {B g0 : Nat} {gs : Nat → Nat} {T : List (List Int)} (h : MTab W B g0 gs T) (hb : Below W.heap.size W W') : MTab W' B g0 gs T where
 ge := h.ge
 top := blk_below h.top hb
 each := fun k hk => ⟨(h.each k hk).1, (h.each k hk).2.1, blk_below (h.each k hk).2.2 hb⟩
 inj := h.inj
theorem MTab.drew {W : World} {B g0 : Nat} {gs : Nat → Nat} {T : List (List Int)} (h : MTab W B g0 gs T) : MTab W.drew B g0 gs T := h.below (below_drew (Below.refl _ _))
theorem MTab.drewN {W : World} {B g0 : Nat} {gs : Nat → Nat} {T : List (List Int)} (h : MTab W B g0 gs T) (n : Nat) : MTab (W.drewN n) B g0 gs T := h.below (pw_below_drewN (Below.refl _ _) n)
theorem MTab.alloc {W : World} {B g0 : Nat} {gs : Nat → Nat} {T : List (List Int)} (h : MTab W B g0 gs T) (o : Obj) : MTab (W.alloc o) B g0 gs T := h.below (below_alloc (Below.refl _ _) _)
theorem MTab.lower {W : World} {B B' g0 : Nat} {gs : Nat → Nat} {T : List (List Int)} (h : MTab W B g0 gs T) (hb : B' ≤ B) : MTab W B' g0 gs T where
 ge := Nat.le_trans hb h.ge
 top := h.top
 each := fun k hk => ⟨Nat.le_trans hb (h.each k hk).1, (h.each k hk).2.1, (h.each k hk).2.2⟩
 inj := h.inj
theorem MTab.S {W : World} {B g0 : Nat} {gs : Nat → Nat} {T : List (List Int)} (h : MTab W B g0 gs T) (hn : T.length ≤ 1000000000000000) (hl : ∀ k, k < T.length → (T.getD k []).length ≤ 1000000000000000) :
  Kd.S (Kd.slice 3 (Kd.int .i64)) 34 W B (fun _ => True) (.slice (some ⟨g0, 0, none⟩) T.length T.length) T :=
 rows_S hn h.ge h.top (fun k hk => ⟨(h.each k hk).1, (h.each k hk).2.1, hl k hk, (h.each k hk).2.2⟩) h.inj
theorem MTab.cell {W : World} {B g0 : Nat} {gs : Nat → Nat} {T : List (List Int)} (h : MTab W B g0 gs T) (i j : Nat) (hi : i < T.length) (hj : j < (T.getD i []).length) : W.cell? ⟨gs i, j, none⟩ = some (.int .i64 ((T.getD i []).getD j 0)) := by
 rw [blk_cell (h.each i hi).2.2]
 simp only [List.getElem?_toArray, List.getElem?_map, List.getD_eq_getElem?_getD (l := T.getD i []), List.getElem?_eq_getElem hj, Option.map_some, Option.getD_some]
theorem MTab.free {W : World} {B g0 : Nat} {gs : Nat → Nat} {T : List (List Int)} (h : MTab W B g0 gs T) (i j : Nat) (hi : i < T.length) : W.frozen? ⟨gs i, j, none⟩ = false := blk_frozen (h.each i hi).2.2 j
/-- T with v at (i, j). -/
def putT (T : List (List Int)) (i j : Nat) (v : Int) : List (List Int) := T.set i ((T.getD i []).set j v)
theorem putT_length (T : List (List Int)) (i j : Nat) (v : Int) : (putT T i j v).length = T.length := by simp [putT]
theorem putT_row (T : List (List Int)) (i j : Nat) (v : Int) (k : Nat) : ((putT T i j v).getD k []).length = (T.getD k []).length := by
 unfold putT
 simp only [List.getD_eq_getElem?_getD, List.getElem?_set]
 by_cases h : i = k
 ·subst h
  by_cases h2 : i < T.length
  ·simp [h2]
  ·simp [h2]
 ·simp [h]
theorem MTab.put {W : World} {B g0 : Nat} {gs : Nat → Nat} {T : List (List Int)} (h : MTab W B g0 gs T) (i j : Nat) (hi : i < T.length) (v : Int) : MTab (W.setCell ⟨gs i, j, none⟩ (.int .i64 v)) B g0 gs (putT T i j v) where
 ge := h.ge
 top := by
  have e : (List.range (putT T i j v).length).map (fun k => Value.slice (some ⟨gs k, 0, none⟩) ((putT T i j v).getD k []).length ((putT T i j v).getD k []).length) = (List.range T.length).map fun k => Value.slice (some ⟨gs k, 0, none⟩) (T.getD k []).length (T.getD k []).length := by
   rw [putT_length]
   apply List.map_congr_left
   intro k hk
   rw [putT_row]
  unfold rowBlk
  rw [e]
  exact blk_far h.top (h.each i hi).2.1.symm _
 each := fun k hk => by
  rw [putT_length] at hk
  refine ⟨(h.each k hk).1, (h.each k hk).2.1, ?_⟩
  by_cases e : k = i
  ·subst e
   have e2 : (putT T k j v).getD k [] = (T.getD k []).set j v := by unfold putT; simp [List.getD_eq_getElem?_getD, hk]
   rw [e2]
   exact blk_put (h.each k hk).2.2 j _ (by simp)
  ·have e2 : (putT T i j v).getD k [] = T.getD k [] := by
    unfold putT
    rw [List.getD_eq_getElem?_getD, List.getElem?_set_ne (fun e3 => e e3.symm), List.getD_eq_getElem?_getD]
   rw [e2]
   exact blk_far (h.each k hk).2.2 (fun e3 => e (h.inj k i hk hi e3)) _
 inj := fun k k' hk hk' => h.inj k k' (by rwa [putT_length] at hk) (by rwa [putT_length] at hk')
/-- What comes back is a table of the call's own, as T tells it; all else is as it was. -/
def RetM (w : World) (T : List (List Int)) (e : Ending) (w' : World) : Prop := ∃ (g0 : Nat) (gs : Nat → Nat), e = .returned (.slice (some ⟨g0, 0, none⟩) T.length T.length) ∧ MTab w' w.heap.size g0 gs T ∧ Below w.heap.size w w'
theorem info_rows : (Try.prog.info? 34).map (fun i => (i.zero, i.size, i.bytes)) = some (some (.slice none 0 0), 1, 24) := by kernel_rfl
theorem info_ints : (Try.prog.info? 3).map (fun i => (i.zero, i.size, i.bytes)) = some (some (.int .i64 0), 1, 8) := by kernel_rfl

theorem madeRows (m : Nat) : madeCells #[Value.slice none 0 0] m = (List.replicate m (Value.slice none 0 0)).toArray := by
 apply Array.ext
 ·simp [madeCells]
 ·intro i h1 h2; simp [madeCells, Nat.mod_one]
theorem madeInts (m : Nat) : madeCells #[Value.int .i64 0] m = ((List.replicate m (0 : Int)).map (Value.int .i64)).toArray := by
 apply Array.ext
 ·simp [madeCells]
 ·intro i h1 h2; simp [madeCells, Nat.mod_one]


end Go.Proofs.Ythlgclfhoeakgaa

namespace Go.Proofs.Ythlgclfhoeakgaa
open Go.RowKit Go.Proofs.YthlgclfhoeakgaaW.PrintWords Go.Proofs.YthlgclfhoeakgaaW.PrintLast Go.Proofs.YthlgclfhoeakgaaW.PrintMore
set_option linter.unusedVariables false
set_option linter.unusedSimpArgs false

theorem rd_nat (l : List Int) (i : Nat) (h : i < l.length) : rd l i = l[i] := by simp [rd, List.getD_eq_getElem?_getD, h]
/-- A table of copies while it is filled: i rows are there. -/
structure CopyAt (w wr : World) (g0 : Nat) (T : List (List Int)) (i : Nat) (gs : Nat → Nat) : Prop where
 below : Below w.heap.size w wr
 ge : w.heap.size ≤ g0
 top : rowBlk wr g0 ((List.range i).map (fun k => Value.slice (some ⟨gs k, 0, none⟩) (T.getD k []).length (T.getD k []).length) ++ List.replicate (T.length - i) (.slice none 0 0))
 each : ∀ k, k < i → g0 < gs k ∧ intBlk wr (gs k) (T.getD k [])
 inj : ∀ k k', k < k' → k' < i → gs k < gs k'
theorem CopyAt.init (w : World) (T : List (List Int)) : CopyAt w (w.alloc (.cells (madeCells #[.slice none 0 0] T.length) 34)) w.heap.size T 0 (fun _ => 0) where
 below := below_alloc (Below.refl _ _) _
 ge := Nat.le_refl _
 top := by
  unfold rowBlk
  rw [madeRows]
  simpa using blk_new w _
 each := fun k hk => by omega
 inj := fun k k' h1 h2 => by omega
theorem CopyAt.drew {w wr : World} {g0 i : Nat} {T : List (List Int)} {gs : Nat → Nat} (h : CopyAt w wr g0 T i gs) : CopyAt w wr.drew g0 T i gs where
 below := below_drew h.below
 ge := h.ge
 top := h.top
 each := h.each
 inj := h.inj
theorem CopyAt.mono {w wr wr' : World} {g0 i : Nat} {T : List (List Int)} {gs : Nat → Nat} (h : CopyAt w wr g0 T i gs) (hb : Below wr.heap.size wr wr') : CopyAt w wr' g0 T i gs where
 below := below_step h.below hb
 ge := h.ge
 top := blk_below h.top hb
 each := fun k hk => ⟨(h.each k hk).1, blk_below (h.each k hk).2 hb⟩
 inj := h.inj
theorem CopyAt.cell {w wr : World} {g0 i : Nat} {T : List (List Int)} {gs : Nat → Nat} (h : CopyAt w wr g0 T i gs) (hi : i < T.length) : wr.cell? ⟨g0, i, none⟩ = some (.slice none 0 0) := by
 rw [blk_cell h.top]
 obtain ⟨m, hm⟩ : ∃ m, T.length - i = m + 1 := ⟨T.length - i - 1, by omega⟩
 simp [hm, List.replicate_succ]
theorem CopyAt.free {w wr : World} {g0 i : Nat} {T : List (List Int)} {gs : Nat → Nat} (h : CopyAt w wr g0 T i gs) (x : Nat) : wr.frozen? ⟨g0, x, none⟩ = false := blk_frozen h.top x
theorem CopyAt.mtab {w wr : World} {g0 : Nat} {T : List (List Int)} {gs : Nat → Nat} (h : CopyAt w wr g0 T T.length gs) : MTab wr w.heap.size g0 gs T where
 ge := h.ge
 top := by
  have := h.top
  rw [Nat.sub_self] at this
  simpa using this
 each := fun k hk => by
  obtain ⟨h1, h2⟩ := h.each k hk
  have := h.ge
  exact ⟨by omega, by omega, h2⟩
 inj := fun k k' hk hk' e => by
  rcases Nat.lt_trichotomy k k' with hlt | he | hlt
  ·have := h.inj k k' hlt hk'; omega
  ·exact he
  ·have := h.inj k' k hlt hk; omega

theorem rowsAt {w : World} {A : Option Addr} {n : Nat} {xs : List (List Int)} (h : Kd.C (Kd.slice 3 (Kd.int .i64)) w A n xs) (i : Nat) (h1 : i < n) : ∃ ad A0 c0, A = some ad ∧ w.cell? (ad.add i) = some (.slice A0 (xs.getD i []).length c0) ∧ (xs.getD i []).length ≤ c0 ∧ (Kd.int .i64).C w A0 (xs.getD i []).length (xs.getD i []) := by
 obtain ⟨ad, c, e, _, hK, hc0⟩ := Kd.C_get h ([] : List Int) (i : Int) (by omega) (by omega)
 obtain ⟨A0, c0, rfl, l0, g0⟩ := hK
 have hq := hc0 0 _ rfl
 simp only [Int.toNat_natCast] at hq l0 g0
 exact ⟨ad, A0, c0, e, by have : (Kd.slice 3 (Kd.int .i64)).sz = 1 := rfl; rw [this, Nat.mul_one, Nat.add_zero] at hq; exact hq, l0, g0⟩

def rowsOk (T : List (List Int)) : Prop := T.length ≤ 11728124029610 ∧ ∀ r ∈ T, r.length ≤ 17592186044416
end Go.Proofs.Ythlgclfhoeakgaa

namespace Go.Proofs.Ythlgclfhoeakgaa
open Go.RowKit Go.Proofs.YthlgclfhoeakgaaW.PrintWords Go.Proofs.YthlgclfhoeakgaaW.PrintLast Go.Proofs.YthlgclfhoeakgaaW.PrintMore
set_option linter.unusedVariables false
set_option linter.unusedSimpArgs false

theorem getD_at {α : Type} (l : List α) (d : α) (i : Nat) (h : i < l.length) : l.getD i d = l[i] := by simp [List.getD_eq_getElem?_getD, h]
end Go.Proofs.Ythlgclfhoeakgaa

namespace Go.Proofs.Ythlgclfhoeakgaa
open Go.RowKit Go.Proofs.YthlgclfhoeakgaaW.PrintWords Go.Proofs.YthlgclfhoeakgaaW.PrintLast Go.Proofs.YthlgclfhoeakgaaW.PrintMore
set_option linter.unusedVariables false
set_option linter.unusedSimpArgs false

/-- The table with f at each place. -/
def rowL (f : Nat → Nat → Int) (i cols : Nat) : List Int := (List.range cols).map (f i)
def tableL (f : Nat → Nat → Int) (rows cols : Nat) : List (List Int) := (List.range rows).map fun i => rowL f i cols
theorem tableL_length (f : Nat → Nat → Int) (rows cols : Nat) : (tableL f rows cols).length = rows := by simp [tableL]
theorem rowL_length (f : Nat → Nat → Int) (i cols : Nat) : (rowL f i cols).length = cols := by simp [rowL]
theorem tableL_get (f : Nat → Nat → Int) (rows cols k : Nat) (h : k < rows) : (tableL f rows cols).getD k [] = rowL f k cols := by simp [tableL, List.getD_eq_getElem?_getD, h]

/-- The table as it is after i rows: rows gs 0 .. gs (i - 1) are whole, the others are not there yet. -/
structure TabAt (w wr : World) (g0 rows cols : Nat) (f : Nat → Nat → Int) (i : Nat) (gs : Nat → Nat) : Prop where
 below : Below w.heap.size w wr
 ge : w.heap.size ≤ g0
 top : rowBlk wr g0 ((List.range i).map (fun k => Value.slice (some ⟨gs k, 0, none⟩) cols cols) ++ List.replicate (rows - i) (.slice none 0 0))
 each : ∀ k, k < i → g0 < gs k ∧ intBlk wr (gs k) (rowL f k cols)
 inj : ∀ k k', k < k' → k' < i → gs k < gs k'

/-- The row i while it is filled: j numbers are there. -/
structure RowAt (w wr : World) (g0 rows cols : Nat) (f : Nat → Nat → Int) (i : Nat) (gs : Nat → Nat) (gi j : Nat) : Prop where
 below : Below w.heap.size w wr
 ge : w.heap.size ≤ g0
 top : rowBlk wr g0 ((List.range i).map (fun k => Value.slice (some ⟨gs k, 0, none⟩) cols cols) ++ (.slice (some ⟨gi, 0, none⟩) cols cols :: List.replicate (rows - (i + 1)) (.slice none 0 0)))
 each : ∀ k, k < i → g0 < gs k ∧ intBlk wr (gs k) (rowL f k cols)
 inj : ∀ k k', k < k' → k' < i → gs k < gs k'
 now : intBlk wr gi ((List.range j).map (f i) ++ List.replicate (cols - j) 0)
 last : ∀ k, k < i → gs k < gi
 gt : g0 < gi

theorem RowAt.mono {w wr wr' : World} {g0 rows cols i gi j : Nat} {f : Nat → Nat → Int} {gs : Nat → Nat} (h : RowAt w wr g0 rows cols f i gs gi j) (hb : Below wr.heap.size wr wr') : RowAt w wr' g0 rows cols f i gs gi j where
 below := below_step h.below hb
 ge := h.ge
 top := blk_below h.top hb
 each := fun k hk => ⟨(h.each k hk).1, blk_below (h.each k hk).2 hb⟩
 inj := h.inj
 now := blk_below h.now hb
 last := h.last
 gt := h.gt

theorem RowAt.drew {w wr : World} {g0 rows cols i gi j : Nat} {f : Nat → Nat → Int} {gs : Nat → Nat} (h : RowAt w wr g0 rows cols f i gs gi j) : RowAt w wr.drew g0 rows cols f i gs gi j where
 below := below_drew h.below
 ge := h.ge
 top := h.top
 each := h.each
 inj := h.inj
 now := h.now
 last := h.last
 gt := h.gt
theorem RowAt.cell0 {w wr : World} {g0 rows cols i gi j : Nat} {f : Nat → Nat → Int} {gs : Nat → Nat} (h : RowAt w wr g0 rows cols f i gs gi j) : wr.cell? ⟨g0, i, none⟩ = some (.slice (some ⟨gi, 0, none⟩) cols cols) := by
 rw [blk_cell h.top]
 simp
theorem RowAt.cellj {w wr : World} {g0 rows cols i gi j : Nat} {f : Nat → Nat → Int} {gs : Nat → Nat} (h : RowAt w wr g0 rows cols f i gs gi j) (hj : j < cols) : wr.cell? ⟨gi, j, none⟩ = some (.int .i64 0) := by
 rw [blk_cell h.now]
 obtain ⟨m, hm⟩ : ∃ m, cols - j = m + 1 := ⟨cols - j - 1, by omega⟩
 simp [hm, List.replicate_succ]
theorem RowAt.free {w wr : World} {g0 rows cols i gi j : Nat} {f : Nat → Nat → Int} {gs : Nat → Nat} (h : RowAt w wr g0 rows cols f i gs gi j) (x : Nat) : wr.frozen? ⟨gi, x, none⟩ = false := blk_frozen h.now x
theorem RowAt.put {w wr : World} {g0 rows cols i gi j : Nat} {f : Nat → Nat → Int} {gs : Nat → Nat} (h : RowAt w wr g0 rows cols f i gs gi j) (hj : j < cols) : RowAt w (wr.setCell ⟨gi, j, none⟩ (.int .i64 (f i j))) g0 rows cols f i gs gi (j + 1) where
 below := h.below.setCell (by have := h.gt; have := h.ge; show _ ≤ gi; omega) _
 ge := h.ge
 top := blk_far h.top (by have := h.gt; show g0 ≠ gi; omega) _
 each := fun k hk => ⟨(h.each k hk).1, blk_far (h.each k hk).2 (by have := h.last k hk; show gs k ≠ gi; omega) _⟩
 inj := h.inj
 now := blk_put h.now j _ (by
  obtain ⟨m, hm⟩ : ∃ m, cols - j = m + 1 := ⟨cols - j - 1, by omega⟩
  rw [hm, show cols - (j + 1) = m by omega]
  simp [List.replicate_succ, List.range_succ, List.set_append])
 last := h.last
 gt := h.gt
theorem RowAt.done {w wr : World} {g0 rows cols i gi : Nat} {f : Nat → Nat → Int} {gs : Nat → Nat} (h : RowAt w wr g0 rows cols f i gs gi cols) (hi : i < rows) : TabAt w wr g0 rows cols f (i + 1) (fun k => if k = i then gi else gs k) where
 below := h.below
 ge := h.ge
 top := by
  have := h.top
  have e : (List.range (i + 1)).map (fun k => Value.slice (some ⟨if k = i then gi else gs k, 0, none⟩) cols cols) = (List.range i).map (fun k => Value.slice (some ⟨gs k, 0, none⟩) cols cols) ++ [.slice (some ⟨gi, 0, none⟩) cols cols] := by
   rw [List.range_succ, List.map_append]
   congr 1
   ·apply List.map_congr_left
    intro k hk
    rw [if_neg (by have := List.mem_range.1 hk; omega)]
   ·simp
  unfold rowBlk
  rw [e, List.append_assoc]
  exact this
 each := fun k hk => by
  by_cases e : k = i
  ·subst e
   rw [if_pos rfl]
   refine ⟨h.gt, ?_⟩
   have := h.now
   simpa [rowL] using this
  ·rw [if_neg e]
   exact h.each k (by omega)
 inj := fun k k' h1 h2 => by
  rw [if_neg (show ¬ k = i by omega)]
  by_cases e : k' = i
  ·rw [if_pos e]; exact h.last k (by omega)
  ·rw [if_neg e]; exact h.inj k k' h1 (by omega)
theorem TabAt.mtab {w wr : World} {g0 rows cols : Nat} {f : Nat → Nat → Int} {gs : Nat → Nat} (h : TabAt w wr g0 rows cols f rows gs) : MTab wr w.heap.size g0 gs (tableL f rows cols) where
 ge := h.ge
 top := by
  have := h.top
  rw [Nat.sub_self] at this
  simp only [List.replicate_zero, List.append_nil] at this
  have e : (List.range rows).map (fun k => Value.slice (some ⟨gs k, 0, none⟩) ((tableL f rows cols).getD k []).length ((tableL f rows cols).getD k []).length) = (List.range rows).map (fun k => Value.slice (some ⟨gs k, 0, none⟩) cols cols) := by
   apply List.map_congr_left
   intro k hk
   rw [tableL_get f rows cols k (List.mem_range.1 hk), rowL_length]
  unfold rowBlk
  rw [tableL_length, e]
  exact this
 each := fun k hk => by
  rw [tableL_length] at hk
  obtain ⟨h1, h2⟩ := h.each k hk
  have := h.ge
  rw [tableL_get f rows cols k hk]
  exact ⟨by omega, by omega, h2⟩
 inj := fun k k' hk hk' e => by
  rw [tableL_length] at hk hk'
  rcases Nat.lt_trichotomy k k' with hlt | he | hlt
  ·have := h.inj k k' hlt hk'; omega
  ·exact he
  ·have := h.inj k' k hlt hk; omega
theorem TabAt.init (w : World) (rows cols : Nat) (f : Nat → Nat → Int) : TabAt w (w.alloc (.cells (madeCells #[.slice none 0 0] rows) 34)) w.heap.size rows cols f 0 (fun _ => 0) where
 below := below_alloc (Below.refl _ _) _
 ge := Nat.le_refl _
 top := by
  unfold rowBlk
  rw [madeRows]
  simpa using blk_new w _
 each := fun k hk => by omega
 inj := fun k k' h1 h2 => by omega
theorem TabAt.cell0 {w wr : World} {g0 rows cols i : Nat} {f : Nat → Nat → Int} {gs : Nat → Nat} (h : TabAt w wr g0 rows cols f i gs) (hi : i < rows) : wr.cell? ⟨g0, i, none⟩ = some (.slice none 0 0) := by
 rw [blk_cell h.top]
 obtain ⟨m, hm⟩ : ∃ m, rows - i = m + 1 := ⟨rows - i - 1, by omega⟩
 simp [hm, List.replicate_succ]
theorem TabAt.free {w wr : World} {g0 rows cols i : Nat} {f : Nat → Nat → Int} {gs : Nat → Nat} (h : TabAt w wr g0 rows cols f i gs) (x : Nat) : wr.frozen? ⟨g0, x, none⟩ = false := blk_frozen h.top x
theorem TabAt.start {w wr : World} {g0 rows cols i : Nat} {f : Nat → Nat → Int} {gs : Nat → Nat} (h : TabAt w wr g0 rows cols f i gs) (hi : i < rows) :
  RowAt w ((wr.alloc (.cells (madeCells #[.int .i64 0] cols) 3)).setCell ⟨g0, i, none⟩ (.slice (some ⟨wr.heap.size, 0, none⟩) cols cols)) g0 rows cols f i gs wr.heap.size 0 where
 below := (below_alloc h.below _).setCell h.ge _
 ge := h.ge
 top := blk_put (blk_alloc h.top _) i _ (by
  obtain ⟨m, hm⟩ : ∃ m, rows - i = m + 1 := ⟨rows - i - 1, by omega⟩
  rw [hm, show rows - (i + 1) = m by omega]
  simp [List.replicate_succ, List.set_append])
 each := fun k hk => ⟨(h.each k hk).1, blk_far (blk_alloc (h.each k hk).2 _) (by have := (h.each k hk).1; show gs k ≠ g0; omega) _⟩
 inj := h.inj
 now := blk_far (by have := blk_new wr (.cells (madeCells #[.int .i64 0] cols) 3); rw [madeInts] at this ⊢; simpa using this) (by have := blk_lt h.top; show wr.heap.size ≠ g0; omega) _
 last := fun k hk => blk_lt (h.each k hk).2
 gt := blk_lt h.top

set_option maxHeartbeats 4000000 in
set_option maxRecDepth 100000 in
theorem impl_tableC.callsM (g : Nat) (lb : Array Value) (f : Nat → Nat → Int) (rows cols : Nat) (w : World) (hr : rows ≤ 1000000) (hc : cols ≤ 1000000)
  (eg : ∀ args w, (callFunc g args).run Try.prog w = .ok (.enter g args) w)
  (hf : ∀ (i j : Nat) (W : World), i < rows → j < cols → Below w.heap.size w W → Gives Try.prog g (#[.int .i64 i, .int .i64 j] ++ lb) W (.int .i64 (f i j))) :
  Calls Try.prog 101 #[.int .i64 rows, .int .i64 cols, .func (.func g) #[] lb] w (RetM w (tableL f rows cols)) := by
 have HF := Aside0.mk hf
 clear hf
 have mk1 := fun W : World => run_make_row' (P := Try.prog) 22 34 (.slice none 0 0) 24 Try.underlying22 info_rows rfl .i64 .i64 rows (by omega) (by omega) W
 have mk2 := fun W : World => run_make_row' (P := Try.prog) 34 3 (.int .i64 0) 8 Try.underlying34 info_ints rfl .i64 .i64 cols (by omega) (by omega) W
 have hst : TabAt w (w.alloc (.cells (madeCells #[.slice none 0 0] rows) 34)) w.heap.size rows cols f 0 (fun _ => 0) := TabAt.init w rows cols f
 have HST := Aside0.mk hst
 clear hst
 go_enter Try.func101, Try.ntmps101
 go_wp2
 go_loopg [8, 9, 14] rows (fun gg s8 s9 s14 wr => ∃ (i : Nat) (gs : Nat → Nat), i ≤ rows ∧ rows - i ≤ gg ∧ s14 = .int .i64 i ∧ Aside0 (TabAt w wr w.heap.size rows cols f i gs))
 case atStart => exact ⟨0, fun _ => 0, Nat.zero_le _, Nat.le_refl _, rfl, HST⟩
 case round =>
  obtain ⟨i, gs, hi, hg, rfl, HT⟩ := hrel
  obtain ⟨wo, rfl⟩ : ∃ wo : World, wo = wr := ⟨_, rfl⟩
  by_cases hlt : i < rows
  ·have hlz : (i : Int) < (rows : Int) := by omega
   have hx : (wo.alloc (.cells (madeCells #[.int .i64 0] cols) 3)).cell? ⟨w.heap.size, i, none⟩ = some (.slice none 0 0) := (blk_cell (blk_alloc HT.out.top _) i).trans ((blk_cell HT.out.top i).symm.trans (HT.out.cell0 hlt))
   have hfz : (wo.alloc (.cells (madeCells #[.int .i64 0] cols) 3)).frozen? ⟨w.heap.size, i, none⟩ = false := blk_frozen (blk_alloc HT.out.top _) i
   have HR := Aside0.mk (HT.out.start hlt)
   go_wp2
   go_loopg [9, 27] cols (fun gj s9 s27 wr2 => ∃ j : Nat, j ≤ cols ∧ cols - j ≤ gj ∧ s27 = .int .i64 j ∧ Aside0 (RowAt w wr2 w.heap.size rows cols f i gs wo.heap.size j))
   case atStart => exact ⟨0, Nat.zero_le _, Nat.le_refl _, rfl, HR⟩
   case round =>
    clear hx hfz HR
    obtain ⟨j, hj, hgj, rfl, HJ⟩ := hrel
    by_cases hjt : j < cols
    ·have hjz : (j : Int) < (cols : Int) := by omega
     have hx0 := HJ.out.cell0
     have hxj := HJ.out.cellj hjt
     have hfj := HJ.out.free j
     have hcall : ∀ W, RowAt w W w.heap.size rows cols f i gs wo.heap.size j → Calls Try.prog g (#[.int .i64 i, .int .i64 j] ++ lb) W fun e W' => e = .returned (.int .i64 (f i j)) ∧ RowAt w W' w.heap.size rows cols f i gs wo.heap.size j := fun W hW => (HF.out i j W hlt hjt hW.below).mono fun e W' h => ⟨h.1, hW.mono h.2⟩
     go_wp2
     go_region_with (go_at_fn g; refine (hcall _ (by repeat (first | exact HJ.out | apply RowAt.drew))).mono ?_; rintro e w' ⟨rfl, HJ1⟩; have hx1 := HJ1.cell0; have hxk := HJ1.cellj hjt; have hfk := HJ1.free j)
     all_goals
      have HP := Aside0.mk (HJ1.put hjt)
      go_wp2
      go_roundg (cols - (j + 1))
      case measure => omega
      case rel => exact ⟨j + 1, by omega, by omega, by go_num, HP⟩
    ·have hjz : ¬ (j : Int) < (cols : Int) := by omega
     have hjc : j = cols := by omega
     subst hjc
     have HD := Aside0.mk (HJ.out.done hlt)
     go_wp2
     go_roundg (rows - (i + 1))
     case measure => omega
     case rel => exact ⟨i + 1, _, by omega, by omega, by go_num, HD⟩
  ·have hlz : ¬ (i : Int) < (rows : Int) := by omega
   have hir : i = rows := by omega
   subst hir
   go_wp2
   go_ret
   exact ⟨_, gs, by rw [tableL_length]; rfl, HT.out.mtab, HT.out.below⟩
end Go.Proofs.Ythlgclfhoeakgaa

namespace Go.Proofs.Ythlgclfhoeakgaa
open Go.RowKit Go.Proofs.YthlgclfhoeakgaaW.PrintWords Go.Proofs.YthlgclfhoeakgaaW.PrintLast Go.Proofs.YthlgclfhoeakgaaW.PrintMore
set_option linter.unusedVariables false
set_option linter.unusedSimpArgs false

end Go.Proofs.Ythlgclfhoeakgaa

namespace Go.Proofs.Ythlgclfhoeakgaa
open Go.RowKit Go.Proofs.YthlgclfhoeakgaaW.PrintWords Go.Proofs.YthlgclfhoeakgaaW.PrintLast Go.Proofs.YthlgclfhoeakgaaW.PrintMore
set_option linter.unusedVariables false
set_option linter.unusedSimpArgs false

theorem isSquare_1.calls (x : List Int) (A : Option Addr) (c : Nat) (b n : Nat) (A2 : Option Addr) (c2 : Nat) (W : World) (hn : n ≤ 9223372036854775807) (hx : x.length ≤ 9223372036854775807) (h : W.cell? ⟨b, 0, none⟩ = some (.slice A2 n c2)) :
  Gives Try.prog 76 #[.slice A x.length c, .pointer (some ⟨b, 0, none⟩)] W (.bool (!(x.length == n))) := by
 unfold Gives
 by_cases he : x.length = n
 ·have h1 : (x.length == n) = true := beq_iff_eq.2 he
  have h2 : (((x.length : Nat) : Int) != (n : Int)) = false := by simp [he]
  go_enter Try.func76, Try.ntmps76
  go_wp2
  go_ret
  exact ⟨by first | rfl | simp_all, Below.refl _ _⟩
 ·have h1 : (x.length == n) = false := beq_eq_false_iff_ne.2 he
  have h2 : (((x.length : Nat) : Int) != (n : Int)) = true := by rw [bne_iff_ne]; omega
  go_enter Try.func76, Try.ntmps76
  go_wp2
  go_ret
  exact ⟨by first | rfl | simp_all, Below.refl _ _⟩

def squareB (l : List (List Int)) : Bool := l.all fun r => r.length == l.length
/-- The sum of the first j numbers. -/
def sumTo (l : List Int) : Nat → Int
 | 0 => 0
 | j + 1 => wrap64 (sumTo l j + rd l j)
def sumW (l : List Int) : Int := sumTo l l.length
theorem impl_sum.calls' (A0 : Option Addr) (c0 : Nat) (l0 : List Int) (w : World) (hr0 : Kd.C (Kd.int .i64) w A0 l0.length l0) :
  Calls Try.prog 109 #[.slice A0 l0.length c0] w fun e w' => e = .returned (.int .i64 (sumW l0)) ∧ w = w' := by
 have hm := hr0.2.1
 have HR0 := Aside0.mk hr0
 clear hr0
 go_enter Try.func109, Try.ntmps109
 go_wp2
 go_loop [3, 5, 8] (fun s3 s5 s8 => ∃ j : Nat, j ≤ l0.length ∧ s8 = .int .i64 j ∧ s3 = .int .i64 (sumTo l0 j)) (fun _ _ s8 => l0.length - (intOf s8).toNat)
 case atStart => exact ⟨0, Nat.zero_le _, rfl, rfl⟩
 case round =>
  obtain ⟨j, hj, rfl, rfl⟩ := hrel
  by_cases hlt : j < l0.length
  ·have hz : (j : Int) < (l0.length : Int) := by omega
   obtain ⟨ad, e0, hx⟩ := Kd.at_int HR0.out j (by omega) hz
   cases e0
   simp only [Int.toNat_natCast] at hx
   have HS := Aside0.mk (show sumTo l0 (j + 1) = wrap64 (sumTo l0 j + rd l0 j) from rfl)
   go_wp2
   go_round
   case rel => exact ⟨j + 1, by omega, by go_num, by rw [HS.out]⟩
   case measure => simp [intOf]; omega
  ·have hz : ¬ (j : Int) < (l0.length : Int) := by omega
   have : j = l0.length := by omega
   subst this
   go_wp2
   go_ret
   exact ⟨rfl, rfl⟩

/-- Do the signs alternate, from sum s on? -/
def altFrom : List Int → Int → Bool
 | [], s => s == 1
 | n :: r, s => inB n (-1) 1 && (inB (s + n) 0 1 && altFrom r (s + n))
def altB (l : List Int) : Bool := altFrom l 0
theorem altFrom_false1 (l : List Int) (j : Nat) (h : j < l.length) (s : Int) (hb : inB (rd l j) (-1) 1 = false) : altFrom (l.drop j) s = false := by
 rw [List.drop_eq_getElem_cons h, altFrom, show l[j] = rd l j by simp [rd, List.getD_eq_getElem?_getD, h], hb]; rfl
theorem altFrom_step (l : List Int) (j : Nat) (h : j < l.length) (s : Int) (hb : inB (rd l j) (-1) 1 = true) : altFrom (l.drop j) s = (inB (s + rd l j) 0 1 && altFrom (l.drop (j + 1)) (s + rd l j)) := by
 rw [List.drop_eq_getElem_cons h, altFrom, show l[j] = rd l j by simp [rd, List.getD_eq_getElem?_getD, h], hb]; rfl
/-- A column of a table. -/
def colTo (m : List (List Int)) (j i : Nat) : List Int := (List.range i).map fun k => rd (m.getD k []) j
def colL (m : List (List Int)) (j : Nat) : List Int := colTo m j m.length
theorem colTo_length (m : List (List Int)) (j i : Nat) : (colTo m j i).length = i := by simp [colTo]
theorem colL_length (m : List (List Int)) (j : Nat) : (colL m j).length = m.length := colTo_length m j _
/-- From row and column i on all alternate. -/
def signsFrom (m : List (List Int)) (i : Nat) : Bool := (List.range' i (m.length - i)).all fun i => altB (m.getD i []) && altB (colL m i)
/-- A sign matrix. -/
def isSign (m : List (List Int)) : Bool := inB m.length 1 6 && (squareB m && signsFrom m 0)
theorem isSign_facts {m : List (List Int)} (h : isSign m = true) : 1 ≤ m.length ∧ m.length ≤ 6 ∧ (∀ i, i < m.length → (m.getD i []).length = m.length) ∧ ∀ i, i < m.length → altB (m.getD i []) = true ∧ altB (colL m i) = true := by
 simp only [isSign, Bool.and_eq_true] at h
 have h1 := (inB_iff _ _ _).1 h.1
 refine ⟨by omega, by omega, fun i hi => ?_, fun i hi => ?_⟩
 ·rw [getD_at m [] i hi]
  exact beq_iff_eq.1 (List.all_eq_true.1 h.2.1 _ (List.getElem_mem hi))
 ·have := List.all_eq_true.1 h.2.2 i (by rw [List.mem_range'_1]; omega)
  rwa [Bool.and_eq_true] at this
end Go.Proofs.Ythlgclfhoeakgaa

namespace Go.Proofs.Ythlgclfhoeakgaa
open Go.RowKit Go.Proofs.YthlgclfhoeakgaaW.PrintWords Go.Proofs.YthlgclfhoeakgaaW.PrintLast Go.Proofs.YthlgclfhoeakgaaW.PrintMore
set_option linter.unusedVariables false
set_option linter.unusedSimpArgs false

/-- The sum of the first numbers, with no wrap. -/
def ps (l : List Int) : Nat → Int
 | 0 => 0
 | j + 1 => ps l j + rd l j
theorem alt_from (l : List Int) (h : altB l = true) : ∀ j, j ≤ l.length → altFrom (l.drop j) (ps l j) = true ∧ 0 ≤ ps l j ∧ ps l j ≤ 1
 | 0, _ => ⟨h, by simp [ps], by simp [ps]⟩
 | j + 1, hj => by
  obtain ⟨h1, h2, h3⟩ := alt_from l h j (by omega)
  cases hb : inB (rd l j) (-1) 1 with
  | false => rw [altFrom_false1 l j hj _ hb] at h1; cases h1
  | true =>
   rw [altFrom_step l j hj _ hb, Bool.and_eq_true] at h1
   have h4 := (inB_iff _ _ _).1 h1.1
   exact ⟨h1.2, h4.1, h4.2⟩
theorem alt_ps {l : List Int} (h : altB l = true) {j : Nat} (hj : j ≤ l.length) : 0 ≤ ps l j ∧ ps l j ≤ 1 := (alt_from l h j hj).2
theorem alt_rd {l : List Int} (h : altB l = true) {j : Nat} (hj : j < l.length) : -1 ≤ rd l j ∧ rd l j ≤ 1 := by
 have h1 := (alt_from l h j (by omega)).1
 cases hb : inB (rd l j) (-1) 1 with
 | false => rw [altFrom_false1 l j hj _ hb] at h1; cases h1
 | true => exact (inB_iff _ _ _).1 hb
theorem wrap_small {x : Int} (h1 : -1000000000000 ≤ x) (h2 : x ≤ 1000000000000) : wrap64 x = x := by
 simp only [wrap64]; omega
theorem sumTo_take (l : List Int) (j : Nat) : ∀ i, i ≤ j → sumTo (l.take j) i = sumTo l i
 | 0, _ => rfl
 | i + 1, hi => by
  rw [sumTo, sumTo, sumTo_take l j i (by omega)]
  have : rd (l.take j) i = rd l i := by simp [rd, List.getD_eq_getElem?_getD, List.getElem?_take, show i < j by omega]
  rw [this]
theorem rd_colL (m : List (List Int)) (i j : Nat) (hi : i < m.length) : rd (colL m j) i = rd (m.getD i []) j := by
 simp [colL, colTo, rd, List.getD_eq_getElem?_getD, hi]
theorem RetM.mono_ {w w1 : World} {T : List (List Int)} (hb : Below w.heap.size w w1) {e : Ending} {w' : World} (h : RetM w1 T e w') : RetM w T e w' := by
 obtain ⟨g0, gs, rfl, hm, hb2⟩ := h
 exact ⟨g0, gs, rfl, hm.lower hb.size, below_step hb hb2⟩
end Go.Proofs.Ythlgclfhoeakgaa

namespace Go.Proofs.Ythlgclfhoeakgaa
open Go.RowKit Go.Proofs.YthlgclfhoeakgaaW.PrintWords Go.Proofs.YthlgclfhoeakgaaW.PrintLast Go.Proofs.YthlgclfhoeakgaaW.PrintMore
set_option linter.unusedVariables false

def impl_IsSignMatrix.f (l0 : List (List Int)) : Option Bool := some (isSign l0)
end Go.Proofs.Ythlgclfhoeakgaa

namespace Go.Proofs.Ythlgclfhoeakgaa
open Go.RowKit Go.Proofs.YthlgclfhoeakgaaW.PrintWords Go.Proofs.YthlgclfhoeakgaaW.PrintLast Go.Proofs.YthlgclfhoeakgaaW.PrintMore
set_option linter.unusedVariables false
set_option linter.unusedSimpArgs false

def RetS (w : World) (T : List (List Int)) (e : Ending) (w' : World) : Prop := ∃ v0_ : Value, e = .returned (v0_) ∧ Kd.S (Kd.slice 3 (Kd.int .i64)) 34 w' w.heap.size (fun _ => True) v0_ T ∧ Below w.heap.size w w'
end Go.Proofs.Ythlgclfhoeakgaa

namespace Go.Proofs.Ythlgclfhoeakgaa
open Go.RowKit Go.Proofs.YthlgclfhoeakgaaW.PrintWords Go.Proofs.YthlgclfhoeakgaaW.PrintLast Go.Proofs.YthlgclfhoeakgaaW.PrintMore
set_option linter.unusedVariables false
set_option linter.unusedSimpArgs false

theorem info_int : (Try.prog.info? 3).map (fun i => (i.zero, i.size, i.bytes)) = some (some (.int .i64 0), 1, 8) := by kernel_rfl

def slices_Clone_int_int.f (l0 : List Int) : Option (List Int) := if l0.length < 17592186044416 then some l0 else none
set_option maxHeartbeats 2000000 in
theorem slices_Clone_int_int.calls (A0 : Option Addr) (c0 : Nat) (l0 : List Int) (r : List Int) (w : World) (hr0 : Kd.C (Kd.int .i64) w A0 l0.length l0) (hc0 : l0.length ≤ c0) (h : slices_Clone_int_int.f l0 = some r) :
  Calls Try.prog 68 #[.slice A0 l0.length c0] w fun e w' => ∃ v0_ : Value, e = .returned (v0_) ∧ Kd.R (Kd.int .i64) 3 w' w.heap.size (fun _ => True) v0_ r ∧ Below w.heap.size w w' := by
 unfold slices_Clone_int_int.f at h
 by_cases hlim : l0.length < 17592186044416
 ·rw [if_pos hlim] at h
  obtain rfl := Option.some.inj h
  clear h
  have LM := Aside0.mk hlim
  clear hlim
  have HR0 := Aside0.mk hr0
  clear hr0 hc0
  have hnil := fun (W : World) (n c n' c' : Nat) => Lib.run_eql_slice_nil (P := Try.prog) W 34 3 A0 n c n' c' Try.underlying34
  cases A0 with
  | none =>
   have hl : l0.length = 0 := by
    rcases Nat.eq_zero_or_pos l0.length with h | h
    ·exact h
    ·obtain ⟨ad, e, _⟩ := HR0.out.2.2 h
     cases e
   have hl2 : l0 = [] := List.eq_nil_of_length_eq_zero hl
   subst hl2
   clear hl
   go_enter Try.func68, Try.ntmps68
   go_wp2
   go_ret
   exact ⟨_, rfl, Kd.R_nil _ _ _ _ _, Below.refl _ _⟩
  | some a =>
   have HB := Aside0.mk (Below.refl w.heap.size w)
   go_enter Try.func68, Try.ntmps68
   go_wp2_with (first | ((with_reducible refine gate_dst (N := 5) rfl ?_); refine Kd.R_lit (Kd.int .i64) _ 3 ?hg (N := 5) ?hd (xs := ([] : List Int)) (inner := []) (ok := fun _ => True) (okp := fun _ => True) ?hr ?hp (fun _ hk => hk) trivial (Below.refl _ _) (Nat.le_refl _) (by simp) ?_; (case hd => rfl); (case hg => rfl); (case hr => first | (go_simp; done) | (go_simp; rfl)); (case hp => exact (Reps.none _ _)); intro v102 w3 ho4 hb hg_ hnew_; clear hg_ hnew_; have HO := Aside0.mk (Kd.R_lower ho4 (below_size HB.out)); have HB1 := Aside0.mk (below_step HB.out hb); clear hb ho4 HB) | ((with_reducible refine gate_builtin (b := .append) (xs := #[.tmp 5, .tmp 6]) rfl ?_); at_builtin; refine Kd.R_append_rows (Kd.int .i64) (w0 := w) w.heap.size rfl (.tmp 5) (.tmp 6) 34 3 (.int .i64 0) 8 rfl Try.underlying34 info_int rfl (by decide) (by omega) v102 [] l0 _ _ _ (fun _ => True) (fun _ => False) rfl rfl HO.out (Kd.C_below HR0.out HB1.out) (fun _ _ h => h) (fun _ h => h.elim) (fun _ _ => trivial) HB1.out (below_size HB1.out) (by have := LM.out; simp; omega) ?_; intro v105 w5 ho hb hg hat; have HO2 := Aside0.mk ho; have HB2 := Aside0.mk hb; clear ho hb hg hat))
   go_ret
   exact ⟨_, rfl, HO2.out, HB2.out⟩
 ·rw [if_neg hlim] at h
  cases h

end Go.Proofs.Ythlgclfhoeakgaa

namespace Go.Proofs.Ythlgclfhoeakgaa
open Go.RowKit Go.Proofs.YthlgclfhoeakgaaW.PrintWords Go.Proofs.YthlgclfhoeakgaaW.PrintLast Go.Proofs.YthlgclfhoeakgaaW.PrintMore
set_option linter.unusedVariables false
set_option linter.unusedSimpArgs false

theorem S_row {W : World} {B : Nat} {ok : Nat → Prop} {g n c : Nat} {T : List (List Int)} (h : Kd.S (Kd.slice 3 (Kd.int .i64)) 34 W B ok (.slice (some ⟨g, 0, none⟩) n c) T) (i : Nat) (hi : i < T.length) (hp : 0 < (T.getD i []).length) :
  ∃ gi ci, W.cell? ⟨g, i, none⟩ = some (.slice (some ⟨gi, 0, none⟩) (T.getD i []).length ci) ∧ (T.getD i []).length ≤ ci ∧ B ≤ gi ∧ gi < W.heap.size ∧
   (∀ j : Nat, j < (T.getD i []).length → W.cell? ⟨gi, j, none⟩ = some (.int .i64 (rd (T.getD i []) (j : Int))) ∧ W.frozen? ⟨gi, j, none⟩ = false) ∧
   ∀ (j : Nat) (v : Int), Kd.S (Kd.slice 3 (Kd.int .i64)) 34 (W.setCell ⟨gi, j, none⟩ (.int .i64 v)) B ok (.slice (some ⟨g, 0, none⟩) n c) (putT T i j v) := by
 have hn := (Kd.S_reads' h).1
 obtain ⟨oki, cs, hcl, hM, hcc, hoki, hback⟩ := Kd.S_borrow h ([] : List Int) (i : Int) (by omega) (by omega)
 obtain ⟨u, rfl, hR⟩ := hM
 simp only [Int.toNat_natCast] at hR hcc hback
 have hx := hcc 0 _ rfl
 have hsz : (Kd.slice 3 (Kd.int .i64)).sz = 1 := rfl
 rw [hsz, Nat.mul_one, Nat.add_zero] at hx
 obtain ⟨gi, ci, rfl, hb, hl, _⟩ := Kd.R_form hR hp
 have hx2 : W.cell? ⟨g, i, none⟩ = some (.slice (some ⟨gi, 0, none⟩) (T.getD i []).length ci) := by
  rw [← hx]
  first | rw [add_plain] | rw [add_at, Nat.zero_add] | (simp [Addr.add]; done)
 refine ⟨gi, ci, hx2, (Kd.R_reads' hR).2.1, hb, hl, fun j hj => ?_, fun j v => ?_⟩
 ·have := Kd.R_celln 0 hR (j : Int) (by omega) (by omega)
  rw [Int.toNat_natCast] at this
  exact this
 ·have hq := Kd.R_putg hR (j : Int) v
  rw [Int.toNat_natCast] at hq
  exact hback hq.2 (fun k e_ => by injection e_ with e_; subst e_; exact hR.1 _ rfl) (x' := (T.getD i []).set j v) (Kd.M_row hq.1)
/-- The same, told of all later worlds. -/
theorem S_put {W : World} {B : Nat} {ok : Nat → Prop} {g n c : Nat} {T : List (List Int)} (h : Kd.S (Kd.slice 3 (Kd.int .i64)) 34 W B ok (.slice (some ⟨g, 0, none⟩) n c) T) (i j : Nat) (hi : i < T.length) (hj : j < (T.getD i []).length) :
  ∃ gi ci, W.cell? ⟨g, i, none⟩ = some (.slice (some ⟨gi, 0, none⟩) (T.getD i []).length ci) ∧ (T.getD i []).length ≤ ci ∧ B ≤ gi ∧ W.cell? ⟨gi, j, none⟩ = some (.int .i64 (rd (T.getD i []) (j : Int))) ∧
   ∀ W', Below W.heap.size W W' → W'.frozen? ⟨gi, j, none⟩ = false ∧ ∀ v : Int, Kd.S (Kd.slice 3 (Kd.int .i64)) 34 (W'.setCell ⟨gi, j, none⟩ (.int .i64 v)) B ok (.slice (some ⟨g, 0, none⟩) n c) (putT T i j v) := by
 obtain ⟨gi, ci, h1, h2, h3, h4, h5, h6⟩ := S_row h i hi (by omega)
 refine ⟨gi, ci, h1, h2, h3, (h5 j hj).1, fun W' hb => ?_⟩
 obtain ⟨gi', ci', k1, k2, k3, k4, k5, k6⟩ := S_row (Kd.S_below h hb) i hi (by omega)
 have e := Option.some.inj ((pw_cell_below hb h1).symm.trans k1)
 injection e with e1 e2 e3
 injection e1 with e1
 injection e1 with e1
 subst e1
 exact ⟨(k5 j hj).2, fun v => k6 j v⟩
end Go.Proofs.Ythlgclfhoeakgaa

namespace Go.Proofs.Ythlgclfhoeakgaa
open Go.RowKit Go.Proofs.YthlgclfhoeakgaaW.PrintWords Go.Proofs.YthlgclfhoeakgaaW.PrintLast Go.Proofs.YthlgclfhoeakgaaW.PrintMore
set_option linter.unusedVariables false

/-- The sum of the first j numbers of the first i rows. -/
def cs (l : List (List Int)) : Nat → Nat → Int
 | 0, _ => 0
 | i + 1, j => cs l i j + ps (l.getD i []) j
/-- The height at a place. -/
def hF (l : List (List Int)) (i j : Nat) : Int := (i : Int) + j - 2 * cs l i j
def heightsM (l : List (List Int)) : List (List Int) := tableL (hF l) (l.length + 1) (l.length + 1)
/-- A square table of small numbers. -/
structure SmallT (l : List (List Int)) : Prop where
 few : l.length ≤ 6
 pos : 1 ≤ l.length
 square : ∀ i, i < l.length → (l.getD i []).length = l.length
 small : ∀ i j : Nat, -100 ≤ rd (l.getD i []) (j : Int) ∧ rd (l.getD i []) (j : Int) ≤ 100
theorem ps_small (l : List Int) (h : ∀ j : Nat, -100 ≤ rd l (j : Int) ∧ rd l (j : Int) ≤ 100) : ∀ j : Nat, -(100 * (j : Int)) ≤ ps l j ∧ ps l j ≤ 100 * (j : Int)
 | 0 => by simp [ps]
 | j + 1 => by
  have h1 := ps_small l h j
  have h2 := h j
  rw [ps]
  omega
theorem sumTo_small (l : List Int) (h : ∀ j : Nat, -100 ≤ rd l (j : Int) ∧ rd l (j : Int) ≤ 100) : ∀ j, j ≤ 1000000 → sumTo l j = ps l j
 | 0, _ => rfl
 | j + 1, hj => by
  have h1 := ps_small l h (j + 1)
  rw [sumTo, sumTo_small l h j (by omega)]
  exact wrap_small (by show _ ≤ ps l (j + 1); omega) (by show ps l (j + 1) ≤ _; omega)
theorem sumW_small (l : List Int) (h : ∀ j : Nat, -100 ≤ rd l (j : Int) ∧ rd l (j : Int) ≤ 100) (j : Nat) (hj : j ≤ l.length) (hm : j ≤ 1000000) : sumW (l.take j) = ps l j := by
 unfold sumW
 rw [List.length_take, Nat.min_eq_left hj, sumTo_take l j j (Nat.le_refl _), sumTo_small l h j hm]
theorem cs_small {l : List (List Int)} (h : SmallT l) (j : Nat) (hj : j ≤ 6) : ∀ i : Nat, -(600 * (i : Int)) ≤ cs l i j ∧ cs l i j ≤ 600 * (i : Int)
 | 0 => by simp [cs]
 | i + 1 => by
  have h1 := cs_small h j hj i
  have h2 := ps_small (l.getD i []) (h.small i) j
  rw [cs]
  omega
/-- What a flip of a cell adds, for heights by their places. -/
def wayF (h : Nat → Nat → Int) (i j : Nat) : Int :=
 if h (i - 1) j = h i (j + 1) ∧ h (i - 1) j = h (i + 1) j ∧ h (i - 1) j = h i (j - 1) then 2 * (h (i - 1) j - h i j) else 0
def updF (h : Nat → Nat → Int) (i j : Nat) (v : Int) (a b : Nat) : Int := if a = i ∧ b = j then v else h a b
def togF (h : Nat → Nat → Int) (i j : Nat) : Nat → Nat → Int := updF h i j (h i j + wayF h i j)
def togs (h : Nat → Nat → Int) : List (Nat × Nat) → Nat → Nat → Int
 | [] => h
 | c :: r => togs (togF h c.1 c.2) r
/-- Heights: the borders are told, and neighbours differ by one. -/
structure HOK (n : Nat) (h : Nat → Nat → Int) : Prop where
 top : ∀ j, j ≤ n → h 0 j = j
 left : ∀ i, i ≤ n → h i 0 = i
 across : ∀ i j, i ≤ n → j < n → h i (j + 1) = h i j + 1 ∨ h i (j + 1) = h i j - 1
 down : ∀ i j, i < n → j ≤ n → h (i + 1) j = h i j + 1 ∨ h (i + 1) j = h i j - 1
 right : ∀ i, i ≤ n → h i n = n - i
 bottom : ∀ j, j ≤ n → h n j = n - j
theorem HOK.agree {n : Nat} {h g : Nat → Nat → Int} (H : HOK n h) (e : ∀ i j, i ≤ n → j ≤ n → g i j = h i j) : HOK n g where
 top := fun j hj => by rw [e 0 j (by omega) hj]; exact H.top j hj
 left := fun i hi => by rw [e i 0 hi (by omega)]; exact H.left i hi
 across := fun i j hi hj => by rw [e i (j + 1) hi (by omega), e i j hi (by omega)]; exact H.across i j hi hj
 down := fun i j hi hj => by rw [e (i + 1) j (by omega) hj, e i j (by omega) hj]; exact H.down i j hi hj
 right := fun i hi => by rw [e i n hi (by omega)]; exact H.right i hi
 bottom := fun j hj => by rw [e n j (by omega) hj]; exact H.bottom j hj
theorem HOK.half {n : Nat} {h : Nat → Nat → Int} (H : HOK n h) (i : Nat) (hi : i ≤ n) : ∀ j : Nat, j ≤ n → ∃ k : Nat, (i : Int) + j - h i j = 2 * k ∧ k ≤ j
 | 0, _ => ⟨0, by rw [H.left i hi]; omega, Nat.le_refl _⟩
 | j + 1, hj => by
  obtain ⟨k, hk, hkj⟩ := H.half i hi j (by omega)
  rcases H.across i j hi (by omega) with e | e
  ·exact ⟨k, by rw [e]; omega, by omega⟩
  ·exact ⟨k + 1, by rw [e]; omega, by omega⟩
/-- The corner sum that heights tell. -/
def cF (h : Nat → Nat → Int) (i j : Nat) : Int := Int.tdiv ((i : Int) + j - h i j) 2
def fromF (h : Nat → Nat → Int) (i j : Nat) : Int := cF h (i + 1) (j + 1) - cF h i (j + 1) - cF h (i + 1) j + cF h i j
def fromT (h : Nat → Nat → Int) (n : Nat) : List (List Int) := tableL (fromF h) n n
theorem HOK.cF_range {n : Nat} {h : Nat → Nat → Int} (H : HOK n h) {i j : Nat} (hi : i ≤ n) (hj : j ≤ n) : (i : Int) + j - h i j = 2 * cF h i j ∧ 0 ≤ cF h i j ∧ cF h i j ≤ j := by
 obtain ⟨k, hk, hkj⟩ := H.half i hi j hj
 have : cF h i j = k := by
  unfold cF
  rw [hk, Int.mul_tdiv_cancel_left _ (by decide)]
 omega
theorem HOK.range {n : Nat} {h : Nat → Nat → Int} (H : HOK n h) {i j : Nat} (hi : i ≤ n) (hj : j ≤ n) : (i : Int) - j ≤ h i j ∧ h i j ≤ i + j := by
 have := H.cF_range hi hj
 omega
theorem rd_rowL (f : Nat → Nat → Int) (i n j : Nat) (hj : j < n) : rd (rowL f i n) (j : Int) = f i j := by
 unfold rowL rd
 simp [List.getD_eq_getElem?_getD, hj]
theorem rd_out (l : List Int) (j : Nat) (hj : l.length ≤ j) : rd l (j : Int) = 0 := by
 unfold rd
 simp [List.getD_eq_getElem?_getD, List.getElem?_eq_none hj]
theorem tableL_out (f : Nat → Nat → Int) (rows cols k : Nat) (h : rows ≤ k) : (tableL f rows cols).getD k [] = [] := by
 simp [List.getD_eq_getElem?_getD, List.getElem?_eq_none (show (tableL f rows cols).length ≤ k by rw [tableL_length]; exact h)]
theorem ps_from {n : Nat} {h : Nat → Nat → Int} (H : HOK n h) {i : Nat} (hi : i < n) : ∀ j, j ≤ n → ps (rowL (fromF h) i n) j = cF h (i + 1) j - cF h i j
 | 0, _ => by
  have h1 := H.cF_range (i := i + 1) (j := 0) (by omega) (by omega)
  have h2 := H.cF_range (i := i) (j := 0) (by omega) (by omega)
  rw [ps]
  omega
 | j + 1, hj => by
  rw [ps, ps_from H hi j (by omega), rd_rowL _ _ _ _ (by omega), fromF]
  omega
theorem fromT_length (h : Nat → Nat → Int) (n : Nat) : (fromT h n).length = n := tableL_length _ _ _
theorem altB_of {l : List Int} (h1 : ∀ j : Nat, j < l.length → -1 ≤ rd l (j : Int) ∧ rd l (j : Int) ≤ 1) (h2 : ∀ j : Nat, j ≤ l.length → 0 ≤ ps l j ∧ ps l j ≤ 1) (h3 : ps l l.length = 1) : altB l = true := by
 have : ∀ d j : Nat, j + d = l.length → altFrom (l.drop j) (ps l j) = true := by
  intro d
  induction d with
  | zero =>
   intro j hj
   have e : j = l.length := by omega
   subst e
   rw [List.drop_length, altFrom, h3]; rfl
  | succ d ih =>
   intro j hj
   rw [altFrom_step l j (by omega) _ ((inB_iff _ _ _).2 (h1 j (by omega))), Bool.and_eq_true]
   exact ⟨(inB_iff _ _ _).2 (h2 (j + 1) (by omega)), ih (j + 1) (by omega)⟩
 exact this l.length 0 (by omega)
theorem isSign_of {m : List (List Int)} (h1 : 1 ≤ m.length) (h2 : m.length ≤ 6) (h3 : ∀ i, i < m.length → (m.getD i []).length = m.length) (h4 : ∀ i, i < m.length → altB (m.getD i []) = true ∧ altB (colL m i) = true) : isSign m = true := by
 simp only [isSign, Bool.and_eq_true]
 refine ⟨(inB_iff _ _ _).2 (by omega), List.all_eq_true.2 fun r hr => ?_, List.all_eq_true.2 fun i hi => ?_⟩
 ·obtain ⟨i, hi, rfl⟩ := List.getElem_of_mem hr
  have := h3 i hi
  rw [getD_at m [] i hi] at this
  exact beq_iff_eq.2 this
 ·rw [List.mem_range'_1] at hi
  have := h4 i (by omega)
  rw [this.1, this.2]; rfl
theorem rd_col_from (h : Nat → Nat → Int) {n i j : Nat} (hi : i < n) (hj : j < n) : rd (colL (fromT h n) j) (i : Int) = fromF h i j := by
 rw [rd_colL _ _ _ (by rw [fromT_length]; exact hi), fromT, tableL_get _ _ _ _ hi, rd_rowL _ _ _ _ hj]
theorem ps_col_from {n : Nat} {h : Nat → Nat → Int} (H : HOK n h) {j : Nat} (hj : j < n) : ∀ i, i ≤ n → ps (colL (fromT h n) j) i = cF h i (j + 1) - cF h i j
 | 0, _ => by
  have h1 := H.cF_range (i := 0) (j := j + 1) (by omega) (by omega)
  have h2 := H.cF_range (i := 0) (j := j) (by omega) (by omega)
  have h3 := H.top (j + 1) (by omega)
  have h4 := H.top j (by omega)
  rw [ps]
  omega
 | i + 1, hi => by
  rw [ps, ps_col_from H hj i (by omega), rd_col_from h (by omega) hj, fromF]
  omega
theorem fromT_sign {n : Nat} {h : Nat → Nat → Int} (H : HOK n h) (hn : n ≤ 6) (h1 : 1 ≤ n) : isSign (fromT h n) = true := by
 have hl := fromT_length h n
 refine isSign_of (by omega) (by omega) (fun i hi => ?_) (fun i hi => ⟨altB_of (fun j hj => ?_) (fun j hj => ?_) ?_, altB_of (fun j hj => ?_) (fun j hj => ?_) ?_⟩)
 ·rw [hl] at hi ⊢; rw [fromT, tableL_get _ _ _ _ hi, rowL_length]
 ·rw [hl] at hi; rw [fromT, tableL_get _ _ _ _ hi] at hj ⊢; rw [rowL_length] at hj
  rw [rd_rowL _ _ _ _ hj]
  have a1 := H.cF_range (i := i + 1) (j := j + 1) (by omega) (by omega)
  have a2 := H.cF_range (i := i) (j := j + 1) (by omega) (by omega)
  have a3 := H.cF_range (i := i + 1) (j := j) (by omega) (by omega)
  have a4 := H.cF_range (i := i) (j := j) (by omega) (by omega)
  have b1 := H.down i (j + 1) (by omega) (by omega)
  have b2 := H.down i j (by omega) (by omega)
  unfold fromF
  omega
 ·rw [hl] at hi; rw [fromT, tableL_get _ _ _ _ hi] at hj ⊢; rw [rowL_length] at hj
  rw [ps_from H hi j hj]
  have a3 := H.cF_range (i := i + 1) (j := j) (by omega) (by omega)
  have a4 := H.cF_range (i := i) (j := j) (by omega) (by omega)
  have b2 := H.down i j (by omega) (by omega)
  omega
 ·rw [hl] at hi; rw [fromT, tableL_get _ _ _ _ hi, rowL_length, ps_from H hi n (Nat.le_refl _)]
  have a3 := H.cF_range (i := i + 1) (j := n) (by omega) (by omega)
  have a4 := H.cF_range (i := i) (j := n) (by omega) (by omega)
  have b1 := H.right i (by omega)
  have b2 := H.right (i + 1) (by omega)
  omega
 ·rw [hl] at hi; rw [colL_length, hl] at hj
  rw [rd_col_from h hj hi]
  have a1 := H.cF_range (i := j + 1) (j := i + 1) (by omega) (by omega)
  have a2 := H.cF_range (i := j) (j := i + 1) (by omega) (by omega)
  have a3 := H.cF_range (i := j + 1) (j := i) (by omega) (by omega)
  have a4 := H.cF_range (i := j) (j := i) (by omega) (by omega)
  have b1 := H.down j (i + 1) (by omega) (by omega)
  have b2 := H.down j i (by omega) (by omega)
  unfold fromF
  omega
 ·rw [hl] at hi; rw [colL_length, hl] at hj
  rw [ps_col_from H hi j hj]
  have a1 := H.cF_range (i := j) (j := i + 1) (by omega) (by omega)
  have a2 := H.cF_range (i := j) (j := i) (by omega) (by omega)
  have b1 := H.across j i (by omega) (by omega)
  omega
 ·rw [hl] at hi; rw [colL_length, hl, ps_col_from H hi n (Nat.le_refl _)]
  have a1 := H.cF_range (i := n) (j := i + 1) (by omega) (by omega)
  have a2 := H.cF_range (i := n) (j := i) (by omega) (by omega)
  have b1 := H.bottom i (by omega)
  have b2 := H.bottom (i + 1) (by omega)
  omega
theorem sign_small {l : List (List Int)} (hs : isSign l = true) : SmallT l := by
 obtain ⟨h1, h2, h3, h4⟩ := isSign_facts hs
 refine ⟨by omega, by omega, h3, fun i j => ?_⟩
 by_cases hi : i < l.length
 ·by_cases hj : j < (l.getD i []).length
  ·have := alt_rd (h4 i hi).1 hj
   omega
  ·rw [rd_out _ _ (by omega)]
   omega
 ·rw [show l.getD i [] = [] by simp [List.getD_eq_getElem?_getD, List.getElem?_eq_none (show l.length ≤ i by omega)], rd_out [] j (by simp)]
  omega
theorem cs_col {l : List (List Int)} (hs : isSign l = true) (j : Nat) (hj : j < l.length) : ∀ i, i ≤ l.length → cs l i (j + 1) = cs l i j + ps (colL l j) i
 | 0, _ => by simp [cs, ps]
 | i + 1, hi => by
  rw [cs, cs, cs_col hs j hj i (by omega), ps, ps, rd_colL l i j (by omega)]
  omega
theorem alt_all {l : List Int} (h : altB l = true) : ps l l.length = 1 := by
 have := (alt_from l h l.length (Nat.le_refl _)).1
 rw [List.drop_length, altFrom] at this
 exact beq_iff_eq.1 this
theorem cs_rows {l : List (List Int)} (hs : isSign l = true) : ∀ i, i ≤ l.length → cs l i l.length = i
 | 0, _ => by simp [cs]
 | i + 1, hi => by
  obtain ⟨h1, h2, h3, h4⟩ := isSign_facts hs
  have h5 := alt_all (h4 i (by omega)).1
  rw [h3 i (by omega)] at h5
  rw [cs, cs_rows hs i (by omega), h5]
  omega
theorem cs_cols {l : List (List Int)} (hs : isSign l = true) : ∀ j, j ≤ l.length → cs l l.length j = j
 | 0, _ => by
  have : ∀ i, cs l i 0 = 0 := fun i => by
   induction i with
   | zero => rfl
   | succ i ih => rw [cs, ih, ps]; rfl
  rw [this]; rfl
 | j + 1, hj => by
  obtain ⟨h1, h2, h3, h4⟩ := isSign_facts hs
  have h5 := alt_all (h4 j (by omega)).2
  rw [colL_length] at h5
  rw [cs_col hs j (by omega) l.length (Nat.le_refl _), cs_cols hs j (by omega), h5]
  omega
theorem sign_HOK {l : List (List Int)} (hs : isSign l = true) : HOK l.length (hF l) := by
 obtain ⟨h1, h2, h3, h4⟩ := isSign_facts hs
 refine ⟨fun j hj => by simp [hF, cs], fun i hi => ?_, fun i j hi hj => ?_, fun i j hi hj => ?_, fun i hi => ?_, fun j hj => ?_⟩
 ·have : cs l i 0 = 0 := by
   clear hi
   induction i with
   | zero => rfl
   | succ i ih => rw [cs, ih, ps]; rfl
  rw [hF, this]; omega
 ·have e := cs_col hs j hj i hi
  have := alt_ps (h4 j hj).2 (j := i) (by rw [colL_length]; omega)
  rw [hF, hF, e]
  omega
 ·have := alt_ps (h4 i hi).1 (j := j) (by rw [h3 i hi]; omega)
  rw [hF, hF, cs]
  omega
 ·rw [hF, cs_rows hs i hi]; omega
 ·rw [hF, cs_cols hs j hj]; omega
theorem updF_at (h : Nat → Nat → Int) (i j : Nat) (v : Int) : updF h i j v i j = v := by simp [updF]
theorem updF_ne (h : Nat → Nat → Int) (i j : Nat) (v : Int) (a b : Nat) (e : ¬ (a = i ∧ b = j)) : updF h i j v a b = h a b := by simp [updF, e]
theorem HOK.tog {n : Nat} {h : Nat → Nat → Int} (H : HOK n h) {i j : Nat} (hi1 : 1 ≤ i) (hi : i < n) (hj1 : 1 ≤ j) (hj : j < n) : HOK n (togF h i j) := by
 by_cases e : h (i - 1) j = h i (j + 1) ∧ h (i - 1) j = h (i + 1) j ∧ h (i - 1) j = h i (j - 1)
 ·obtain ⟨e1, e2, e3⟩ := e
  have ew : wayF h i j = 2 * (h (i - 1) j - h i j) := by rw [wayF, if_pos ⟨e1, e2, e3⟩]
  have hstep := H.across i j (by omega) (by omega)
  refine ⟨fun b hb => ?_, fun a ha => ?_, fun a b ha hb => ?_, fun a b ha hb => ?_, fun a ha => ?_, fun b hb => ?_⟩
  ·rw [togF, updF_ne _ _ _ _ _ _ (by omega)]; exact H.top b hb
  ·rw [togF, updF_ne _ _ _ _ _ _ (by omega)]; exact H.left a ha
  ·unfold togF
   have := H.across a b ha hb
   by_cases q1 : a = i ∧ b + 1 = j
   ·obtain ⟨rfl, rfl⟩ := q1
    rw [updF_at, updF_ne _ _ _ _ _ _ (by omega), ew]
    simp only [Nat.add_sub_cancel] at e3
    omega
   ·by_cases q2 : a = i ∧ b = j
    ·obtain ⟨rfl, rfl⟩ := q2
     rw [updF_at, updF_ne _ _ _ _ _ _ (by omega), ew]
     omega
    ·rw [updF_ne _ _ _ _ _ _ q1, updF_ne _ _ _ _ _ _ q2]; exact this
  ·unfold togF
   have := H.down a b ha hb
   by_cases q1 : a + 1 = i ∧ b = j
   ·obtain ⟨rfl, rfl⟩ := q1
    rw [updF_at, updF_ne _ _ _ _ _ _ (by omega), ew]
    simp only [Nat.add_sub_cancel] at e1 e2 e3 ⊢
    omega
   ·by_cases q2 : a = i ∧ b = j
    ·obtain ⟨rfl, rfl⟩ := q2
     rw [updF_at, updF_ne _ _ _ _ _ _ (by omega), ew]
     omega
    ·rw [updF_ne _ _ _ _ _ _ q1, updF_ne _ _ _ _ _ _ q2]; exact this
  ·rw [togF, updF_ne _ _ _ _ _ _ (by omega)]; exact H.right a ha
  ·rw [togF, updF_ne _ _ _ _ _ _ (by omega)]; exact H.bottom b hb
 ·have ew : wayF h i j = 0 := by rw [wayF, if_neg e]
  refine H.agree (fun a b _ _ => ?_)
  unfold togF updF
  split
  ·rename_i q; obtain ⟨rfl, rfl⟩ := q; rw [ew]; omega
  ·rfl
def inCells (n : Nat) (c : Nat × Nat) : Prop := 1 ≤ c.1 ∧ c.1 < n ∧ 1 ≤ c.2 ∧ c.2 < n
theorem HOK.togs {n : Nat} : ∀ (cells : List (Nat × Nat)) {h : Nat → Nat → Int}, HOK n h → (∀ c ∈ cells, inCells n c) → HOK n (togs h cells)
 | [], _, H, _ => H
 | c :: r, h, H, hc => by
  have h1 := hc c (by simp)
  exact HOK.togs r (H.tog h1.1 h1.2.1 h1.2.2.1 h1.2.2.2) (fun d hd => hc d (by simp [hd]))
theorem togs_snoc (c : Nat × Nat) : ∀ (cells : List (Nat × Nat)) (h : Nat → Nat → Int), togs h (cells ++ [c]) = togF (togs h cells) c.1 c.2
 | [], _ => rfl
 | d :: r, h => by rw [List.cons_append, togs, togs_snoc c r, togs]
theorem putT_table (h : Nat → Nat → Int) (r c i j : Nat) (v : Int) : putT (tableL h r c) i j v = tableL (updF h i j v) r c := by
 have hp : putT (tableL h r c) i j v = (tableL h r c).set i ((rowL h i c).set j v) := by
  unfold putT
  by_cases hi : i < r
  ·rw [tableL_get _ _ _ _ hi]
  ·rw [List.set_eq_of_length_le (by rw [tableL_length]; omega), List.set_eq_of_length_le (by rw [tableL_length]; omega)]
 rw [hp]
 clear hp
 apply List.ext_getElem
 ·rw [List.length_set, tableL_length, tableL_length]
 ·intro k h1 h2
  rw [tableL_length] at h2
  have ek : (tableL (updF h i j v) r c)[k] = rowL (updF h i j v) k c := by simp [tableL]
  have eh : (tableL h r c)[k]'(by rw [tableL_length]; exact h2) = rowL h k c := by simp [tableL]
  rw [ek, List.getElem_set]
  by_cases e : i = k
  ·subst e
   rw [if_pos rfl]
   apply List.ext_getElem
   ·simp [rowL]
   ·intro q q1 q2
    simp only [rowL, List.length_map, List.length_range, List.length_set] at q1 q2
    rw [List.getElem_set]
    simp only [rowL, List.getElem_map, List.getElem_range]
    by_cases e2 : j = q
    ·subst e2; rw [if_pos rfl, updF_at]
    ·rw [if_neg e2, updF_ne _ _ _ _ _ _ (by omega)]
  ·rw [if_neg e, eh]
   unfold rowL
   apply List.map_congr_left
   intro q _
   rw [updF_ne _ _ _ _ _ _ (by omega)]
/-- Cells of a list: in row i the first j columns; all of the first i rows. -/
def rowC (p : Nat → Nat → Bool) (i : Nat) : Nat → List (Nat × Nat)
 | 0 => []
 | j + 1 => rowC p i j ++ (if p i (j + 1) = true then [(i, j + 1)] else [])
def allC (p : Nat → Nat → Bool) (m : Nat) : Nat → List (Nat × Nat)
 | 0 => []
 | i + 1 => allC p m i ++ rowC p (i + 1) m
def cellsOf (n : Nat) (p : Nat → Nat → Bool) : List (Nat × Nat) := allC p (n - 1) (n - 1)
theorem rowC_in (p : Nat → Nat → Bool) (i : Nat) : ∀ j, ∀ c ∈ rowC p i j, c.1 = i ∧ 1 ≤ c.2 ∧ c.2 ≤ j
 | 0, c, h => by simp [rowC] at h
 | j + 1, c, h => by
  rw [rowC, List.mem_append] at h
  rcases h with h | h
  ·have := rowC_in p i j c h; omega
  ·split at h
   ·simp at h; subst h; simp
   ·simp at h
theorem allC_in (p : Nat → Nat → Bool) (m : Nat) : ∀ i, ∀ c ∈ allC p m i, 1 ≤ c.1 ∧ c.1 ≤ i ∧ 1 ≤ c.2 ∧ c.2 ≤ m
 | 0, c, h => by simp [allC] at h
 | i + 1, c, h => by
  rw [allC, List.mem_append] at h
  rcases h with h | h
  ·have := allC_in p m i c h; omega
  ·have := rowC_in p (i + 1) m c h; omega
theorem cellsOf_in (n : Nat) (p : Nat → Nat → Bool) : ∀ c ∈ cellsOf n p, inCells n c := by
 intro c h
 have := allC_in p (n - 1) (n - 1) c h
 unfold inCells
 omega
theorem rowC_length (p : Nat → Nat → Bool) (i : Nat) : ∀ j, (rowC p i j).length ≤ j
 | 0 => by simp [rowC]
 | j + 1 => by
  have := rowC_length p i j
  rw [rowC, List.length_append]
  split <;> simp <;> omega
theorem allC_length (p : Nat → Nat → Bool) (m : Nat) : ∀ i, (allC p m i).length ≤ i * m
 | 0 => by simp [allC]
 | i + 1 => by
  have h1 := allC_length p m i
  have h2 := rowC_length p (i + 1) m
  rw [allC, List.length_append, Nat.succ_mul]
  omega
theorem togs_append : ∀ (a b : List (Nat × Nat)) (h : Nat → Nat → Int), togs h (a ++ b) = togs (togs h a) b
 | [], _, _ => rfl
 | c :: r, b, h => by rw [List.cons_append, togs, togs_append r b, togs]
/-- Cells as rows of two numbers. -/
def toRow (c : Nat × Nat) : List Int := [(c.1 : Int), (c.2 : Int)]
def toCell (r : List Int) : Nat × Nat := ((rd r 0).toNat, (rd r 1).toNat)
theorem toCell_toRow (c : Nat × Nat) : toCell (toRow c) = c := by simp [toCell, toRow, rd]
def cellRow (n : Nat) (r : List Int) : Prop := r.length = 2 ∧ 1 ≤ rd r 0 ∧ rd r 0 < n ∧ 1 ≤ rd r 1 ∧ rd r 1 < n
theorem toRow_cell {n : Nat} {c : Nat × Nat} (h : inCells n c) : cellRow n (toRow c) := by
 unfold inCells at h
 unfold cellRow toRow rd
 simp
 omega
/-- The cells of a colour. -/
def colP (colour : Int) (i j : Nat) : Bool := Int.tmod ((i : Int) + j) 2 == colour
/-- What toggling cells, and what flipping a colour makes of a table. -/
def toggledT (l : List (List Int)) (cells : List (Nat × Nat)) : List (List Int) := fromT (togs (hF l) cells) l.length
def flipT (l : List (List Int)) (colour : Int) : List (List Int) := toggledT l (cellsOf l.length (colP colour))
theorem toggledT_sign {l : List (List Int)} (hs : isSign l = true) (cells : List (Nat × Nat)) (hc : ∀ c ∈ cells, inCells l.length c) : isSign (toggledT l cells) = true := by
 have h := isSign_facts hs
 exact fromT_sign ((sign_HOK hs).togs cells hc) h.2.1 h.1
theorem toggledT_length (l : List (List Int)) (cells : List (Nat × Nat)) : (toggledT l cells).length = l.length := fromT_length _ _
theorem flipT_sign {l : List (List Int)} (hs : isSign l = true) (colour : Int) : isSign (flipT l colour) = true := toggledT_sign hs _ (cellsOf_in _ _)
theorem flipT_length (l : List (List Int)) (colour : Int) : (flipT l colour).length = l.length := fromT_length _ _
end Go.Proofs.Ythlgclfhoeakgaa

namespace Go.Proofs.Ythlgclfhoeakgaa
open Go.RowKit Go.Proofs.YthlgclfhoeakgaaW.PrintWords Go.Proofs.YthlgclfhoeakgaaW.PrintLast Go.Proofs.YthlgclfhoeakgaaW.PrintMore
set_option linter.unusedVariables false
set_option linter.unusedSimpArgs false

set_option maxHeartbeats 2000000 in
theorem impl_cornerSum.calls' (A0 : Option Addr) (c0 : Nat) (l0 : List (List Int)) (i j : Nat) (w : World) (hs : SmallT l0) (hi : i ≤ l0.length) (hj : j ≤ l0.length) (hr0 : Kd.C (Kd.slice 3 (Kd.int .i64)) w A0 l0.length l0) (hc0 : l0.length ≤ c0) :
  Calls Try.prog 103 #[.slice A0 l0.length c0, .int .i64 i, .int .i64 j] w fun e w' => e = .returned (.int .i64 (cs l0 i j)) ∧ w = w' := by
 have h6 := hs.few
 have h1 := hs.pos
 obtain ⟨ad, A1, c1, e0, _, _, _⟩ := rowsAt hr0 0 (by omega)
 cases e0
 have HR0 := Aside0.mk hr0
 have HS := Aside0.mk hs
 have hic : i ≤ c0 := by omega
 clear hr0 hs
 go_enter Try.func103, Try.ntmps103
 go_wp2
 go_loop [7, 9, 14] (fun s7 s9 s14 => ∃ k : Nat, k ≤ i ∧ s14 = .int .i64 k ∧ s7 = .int .i64 (cs l0 k j)) (fun _ _ s14 => i - (intOf s14).toNat)
 case atStart => exact ⟨0, Nat.zero_le _, rfl, rfl⟩
 case round =>
  obtain ⟨k, hk, rfl, rfl⟩ := hrel
  by_cases hlt : k < i
  ·have hz : (k : Int) < (i : Int) := by omega
   obtain ⟨ad', Ar, cr, e0, hx, hcr, hrow⟩ := rowsAt HR0.out k (by omega)
   cases e0
   have hrl := HS.out.square k (by omega)
   obtain ⟨ad2, e2, _⟩ := Kd.at_int hrow (0 : Nat) (by omega) (by omega)
   cases e2
   have hsum := impl_sum.calls' (some ad2) cr ((l0.getD k []).take j) w (Kd.C_take hrow (by omega))
   have htl : ((l0.getD k []).take j).length = j := by rw [List.length_take]; omega
   rw [sumW_small _ (HS.out.small k) j (by omega) (by omega), htl] at hsum
   have HE := Aside0.mk (show cs l0 (k + 1) j = cs l0 k j + ps (l0.getD k []) j from rfl)
   obtain ⟨hb1, hb2⟩ := cs_small HS.out j (by omega) k
   obtain ⟨hb3, hb4⟩ := ps_small (l0.getD k []) (HS.out.small k) j
   obtain ⟨p, hp⟩ : ∃ p, p = ps (l0.getD k []) j := ⟨_, rfl⟩
   obtain ⟨q, hq⟩ : ∃ q, q = cs l0 k j := ⟨_, rfl⟩
   rw [← hp] at hsum HE hb3 hb4
   rw [← hq] at HE hb1 hb2 ⊢
   have hjr : j ≤ (l0.getD k []).length := by omega
   have hjc : j ≤ cr := by omega
   clear hp hq hrow htl
   go_wp2_with (go_at_call 109; refine hsum.mono ?_; rintro e w1 ⟨rfl, rfl⟩)
   go_round
   case rel => exact ⟨k + 1, by omega, by go_num, by rw [HE.out]⟩
   case measure => simp [intOf]; omega
  ·have hz : ¬ (k : Int) < (i : Int) := by omega
   have hki : k = i := by omega
   subst hki
   go_wp2
   go_ret
   exact ⟨rfl, rfl⟩
set_option maxHeartbeats 2000000 in
theorem heights_1.calls (l0 : List (List Int)) (i j b : Nat) (A0 : Option Addr) (c0 : Nat) (W : World) (hs : SmallT l0) (hi : i < l0.length + 1) (hj : j < l0.length + 1)
  (hr0 : Kd.C (Kd.slice 3 (Kd.int .i64)) W A0 l0.length l0) (hc0 : l0.length ≤ c0) (hx0 : W.cell? ⟨b, 0, none⟩ = some (.slice A0 l0.length c0)) :
  Gives Try.prog 102 #[.int .i64 i, .int .i64 j, .pointer (some ⟨b, 0, none⟩)] W (.int .i64 (hF l0 i j)) := by
 unfold Gives
 have h6 := hs.few
 have hcs := impl_cornerSum.calls' A0 c0 l0 i j W hs (by omega) (by omega) hr0 hc0
 obtain ⟨hb1, hb2⟩ := cs_small hs j (by omega) i
 have HE := Aside0.mk (show hF l0 i j = (i : Int) + j - 2 * cs l0 i j from rfl)
 obtain ⟨q, hq⟩ : ∃ q, q = cs l0 i j := ⟨_, rfl⟩
 rw [← hq] at hcs hb1 hb2 HE
 clear hq hs hr0
 go_enter Try.func102, Try.ntmps102
 go_wp2_with (go_at_call 103; refine hcs.mono ?_; rintro e w1 ⟨rfl, rfl⟩)
 go_ret
 exact ⟨by rw [HE.out]; rfl, Below.refl _ _⟩
set_option maxHeartbeats 2000000 in
theorem impl_heights.callsM (A0 : Option Addr) (c0 : Nat) (l0 : List (List Int)) (w : World) (hs : SmallT l0) (hr0 : Kd.C (Kd.slice 3 (Kd.int .i64)) w A0 l0.length l0) (hc0 : l0.length ≤ c0) :
  Calls Try.prog 91 #[.slice A0 l0.length c0] w (RetM w (heightsM l0)) := by
 have eg : ∀ args w, (callFunc 102 args).run Try.prog w = .ok (.enter 102 args) w := enters_of Try.func102 (by kernel_rfl) rfl
 have hB2 : Below w.heap.size w (w.alloc (.cells #[.slice A0 l0.length c0] 22)) := below_alloc (Below.refl _ _) _
 have hx : (w.alloc (.cells #[.slice A0 l0.length c0] 22)).cell? ⟨w.heap.size, 0, none⟩ = some (.slice A0 l0.length c0) := by rw [World.cell?_alloc_at _ _ _ _ rfl]; rfl
 have h2 := hs.few
 have hcon := impl_tableC.callsM 102 #[.pointer (some ⟨w.heap.size, 0, none⟩)] (hF l0) (l0.length + 1) (l0.length + 1) (w.alloc (.cells #[.slice A0 l0.length c0] 22)) (by omega) (by omega) eg
  (fun i j W hi hj hb => heights_1.calls l0 i j _ A0 c0 W hs hi hj (Kd.C_below (Kd.C_below hr0 hB2) hb) hc0 (pw_cell_below hb hx))
 have HB := Aside0.mk hB2
 rw [Int.natCast_add, show ((1 : Nat) : Int) = 1 from rfl] at hcon
 clear hr0 hs hB2
 go_enter Try.func91, Try.ntmps91
 go_wp2_with (go_at_call 101; refine hcon.mono ?_; rintro e w' h; obtain ⟨g0, gs, rfl, hm, hb⟩ := RetM.mono_ HB.out h; have HM := Aside0.mk hm; have HB2 := Aside0.mk hb; clear hm hb h)
 go_ret
 exact ⟨g0, gs, rfl, HM.out, HB2.out⟩
def impl_heights.f (l0 : List (List Int)) : Option (List (List Int)) := if isSign l0 = true then some (heightsM l0) else none
theorem impl_heights.calls (A0 : Option Addr) (c0 : Nat) (l0 : List (List Int)) (r : List (List Int)) (w : World) (hr0 : Kd.C (Kd.slice 3 (Kd.int .i64)) w A0 l0.length l0) (hc0 : l0.length ≤ c0) (h : impl_heights.f l0 = some r) :
  Calls Try.prog 91 #[.slice A0 l0.length c0] w fun e w' => ∃ v0_ : Value, e = .returned (v0_) ∧ Kd.S (Kd.slice 3 (Kd.int .i64)) 34 w' w.heap.size (fun _ => True) v0_ r ∧ Below w.heap.size w w' := by
 unfold impl_heights.f at h
 by_cases hs : isSign l0 = true
 ·rw [if_pos hs] at h
  obtain rfl := Option.some.inj h
  have h2 := (isSign_facts hs).2.1
  refine (impl_heights.callsM A0 c0 l0 w (sign_small hs) hr0 hc0).mono ?_
  rintro e w' ⟨g0, gs, rfl, hm, hb⟩
  exact ⟨_, rfl, hm.S (by rw [heightsM, tableL_length]; omega) (fun k hk => by rw [heightsM, tableL_length] at hk; rw [heightsM, tableL_get _ _ _ _ hk, rowL_length]; omega), hb⟩
 ·rw [if_neg hs] at h
  cases h
end Go.Proofs.Ythlgclfhoeakgaa

namespace Go.Proofs.Ythlgclfhoeakgaa
open Go.RowKit Go.Proofs.YthlgclfhoeakgaaW.PrintWords Go.Proofs.YthlgclfhoeakgaaW.PrintLast Go.Proofs.YthlgclfhoeakgaaW.PrintMore
set_option linter.unusedVariables false
set_option linter.unusedSimpArgs false

/-- The numbers of a table by their places. -/
def atF (T : List (List Int)) (i j : Nat) : Int := rd (T.getD i []) (j : Int)
structure SmallH (T : List (List Int)) : Prop where
 few : T.length ≤ 7
 pos : 1 ≤ T.length
 square : ∀ i, i < T.length → (T.getD i []).length = T.length
 small : ∀ i j : Nat, -1000 ≤ atF T i j ∧ atF T i j ≤ 1000
def smallB (T : List (List Int)) : Bool := decide (1 ≤ T.length) && decide (T.length ≤ 7) && T.all fun r => (r.length == T.length) && r.all fun x => inB x (-1000) 1000
theorem smallB_iff (T : List (List Int)) : smallB T = true ↔ SmallH T := by
 unfold smallB
 simp only [Bool.and_eq_true, decide_eq_true_eq, List.all_eq_true]
 constructor
 ·rintro ⟨⟨h1, h2⟩, h3⟩
  refine ⟨h2, h1, fun i hi => ?_, fun i j => ?_⟩
  ·rw [getD_at T [] i hi]; exact beq_iff_eq.1 (h3 _ (List.getElem_mem hi)).1
  ·unfold atF
   by_cases hi : i < T.length
   ·rw [getD_at T [] i hi]
    by_cases hj : j < T[i].length
    ·rw [rd_nat _ _ hj]; exact (inB_iff _ _ _).1 ((h3 _ (List.getElem_mem hi)).2 _ (List.getElem_mem hj))
    ·rw [rd_out _ _ (by omega)]; omega
   ·rw [show T.getD i [] = [] by simp [List.getD_eq_getElem?_getD, List.getElem?_eq_none (show T.length ≤ i by omega)], rd_out [] j (by simp)]; omega
 ·intro h
  refine ⟨⟨h.pos, h.few⟩, fun r hr => ?_⟩
  obtain ⟨i, hi, rfl⟩ := List.getElem_of_mem hr
  have h1 := h.square i hi
  rw [getD_at T [] i hi] at h1
  refine ⟨beq_iff_eq.2 h1, fun x hx => ?_⟩
  obtain ⟨j, hj, rfl⟩ := List.getElem_of_mem hx
  have h2 := h.small i j
  unfold atF at h2
  rw [getD_at T [] i hi, rd_nat _ _ hj] at h2
  exact (inB_iff _ _ _).2 h2
theorem tdiv_two (a : Int) (h1 : -2000 ≤ a) (h2 : a ≤ 2000) : -1000 ≤ Int.tdiv a 2 ∧ Int.tdiv a 2 ≤ 1000 := by
 by_cases h : 0 ≤ a
 ·rw [Int.tdiv_eq_ediv_of_nonneg h]; omega
 ·have e : Int.tdiv a 2 = -((-a) / 2) := by
   rw [← Int.tdiv_eq_ediv_of_nonneg (show 0 ≤ -a by omega), Int.neg_tdiv, Int.neg_neg]
  rw [e]; omega
theorem cF_atF {T : List (List Int)} (h : SmallH T) {i j : Nat} (hi : i ≤ 7) (hj : j ≤ 7) : -1000 ≤ cF (atF T) i j ∧ cF (atF T) i j ≤ 1000 := by
 have := h.small i j
 unfold cF
 exact tdiv_two _ (by omega) (by omega)
set_option maxHeartbeats 2000000 in
theorem fromHeights_1.calls (T : List (List Int)) (i j b : Nat) (A0 : Option Addr) (c0 : Nat) (W : World) (hs : SmallH T) (hi : i < T.length) (hj : j < T.length)
  (hr0 : Kd.C (Kd.slice 3 (Kd.int .i64)) W A0 T.length T) (hx0 : W.cell? ⟨b, 0, none⟩ = some (.slice A0 T.length c0)) :
  Calls Try.prog 106 #[.int .i64 i, .int .i64 j, .pointer (some ⟨b, 0, none⟩)] W fun e W' => e = .returned (.int .i64 (cF (atF T) i j)) ∧ W = W' := by
 have h6 := hs.few
 obtain ⟨ad, A1, c1, e0, hx, hc1, hrow⟩ := rowsAt hr0 i hi
 cases e0
 have hrl := hs.square i hi
 obtain ⟨ad2, e2, hy⟩ := Kd.at_int hrow (j : Int) (by omega) (by omega)
 cases e2
 simp only [Int.toNat_natCast] at hy
 obtain ⟨hb1, hb2⟩ := hs.small i j
 have HE := Aside0.mk (show cF (atF T) i j = Int.tdiv ((i : Int) + j - rd (T.getD i []) (j : Int)) 2 from rfl)
 obtain ⟨x, hxx⟩ : ∃ x, x = rd (T.getD i []) (j : Int) := ⟨_, rfl⟩
 unfold atF at hb1 hb2
 rw [← hxx] at hy HE hb1 hb2
 obtain ⟨row, hrw⟩ : ∃ r, r = T.getD i [] := ⟨_, rfl⟩
 rw [← hrw] at hx hrl
 have hiz : (i : Int) < (T.length : Int) := by omega
 have hjz : (j : Int) < (row.length : Int) := by omega
 clear hxx hrw hrow hr0 hs hrl hc1
 go_enter Try.func106, Try.ntmps106
 go_wp2
 go_ret
 exact ⟨by rw [HE.out]; rfl, rfl⟩
theorem i64_c (n : Nat) (h : n ≤ 100) : IntKind.i64.wrap ((n : Int) + 1) = ((n + 1 : Nat) : Int) := by rw [i64_w]; unfold wrap64; omega
set_option maxHeartbeats 4000000 in
theorem fromHeights_2.calls (T : List (List Int)) (i j b b2 : Nat) (A0 : Option Addr) (c0 : Nat) (W : World) (hs : SmallH T) (hi : i < T.length - 1) (hj : j < T.length - 1)
  (hr0 : Kd.C (Kd.slice 3 (Kd.int .i64)) W A0 T.length T) (hx0 : W.cell? ⟨b, 0, none⟩ = some (.slice A0 T.length c0))
  (hx1 : W.cell? ⟨b2, 0, none⟩ = some (.func (.func 106) #[] #[.pointer (some ⟨b, 0, none⟩)])) :
  Gives Try.prog 107 #[.int .i64 i, .int .i64 j, .pointer (some ⟨b2, 0, none⟩)] W (.int .i64 (fromF (atF T) i j)) := by
 unfold Gives
 have h7 := hs.few
 have K := fun (a c : Nat) (ha : a < T.length) (hc : c < T.length) (W1 : World) (hb : Below W.heap.size W W1) => fromHeights_1.calls T a c b A0 c0 W1 hs ha hc (Kd.C_below hr0 hb) (pw_cell_below hb hx0)
 have k11 := K (i + 1) (j + 1) (by omega) (by omega)
 have k01 := K i (j + 1) (by omega) (by omega)
 have k10 := K (i + 1) j (by omega) (by omega)
 have k00 := K i j (by omega) (by omega)
 have b11 := cF_atF hs (i := i + 1) (j := j + 1) (by omega) (by omega)
 have b01 := cF_atF hs (i := i) (j := j + 1) (by omega) (by omega)
 have b10 := cF_atF hs (i := i + 1) (j := j) (by omega) (by omega)
 have b00 := cF_atF hs (i := i) (j := j) (by omega) (by omega)
 have HE0 : fromF (atF T) i j = cF (atF T) (i + 1) (j + 1) - cF (atF T) i (j + 1) - cF (atF T) (i + 1) j + cF (atF T) i j := rfl
 generalize cF (atF T) (i + 1) (j + 1) = v11 at k11 b11 HE0
 generalize cF (atF T) i (j + 1) = v01 at k01 b01 HE0
 generalize cF (atF T) (i + 1) j = v10 at k10 b10 HE0
 generalize cF (atF T) i j = v00 at k00 b00 HE0
 have HE := Aside0.mk (show fromF (atF T) i j = IntKind.i64.wrap (IntKind.i64.wrap (IntKind.i64.wrap (v11 - v01) - v10) + v00) by
  rw [HE0]; simp only [i64_w]; rw [wrap_small (x := v11 - v01) (by omega) (by omega), wrap_small (x := v11 - v01 - v10) (by omega) (by omega), wrap_small (by omega) (by omega)])
 have HE1 := Aside0.mk HE0
 simp only [← i64_c i (by omega), ← i64_c j (by omega)] at k11 k01 k10
 clear K hr0 hs HE0
 go_enter Try.func107, Try.ntmps107
 go_wp2
 go_region_held3 (fun W1 => W1.cell? ⟨b2, 0, none⟩ = some (.func (.func 106) #[] #[.pointer (some ⟨b, 0, none⟩)]) ∧ Below W.heap.size W W1) (first | (refine ⟨by simp [*], ?_⟩; repeat (first | assumption | exact Below.refl _ _ | apply below_drew)) | (have hh_ := ‹_ ∧ Below W.heap.size W _›; exact hh_)) (first | ((first | go_at_call 106 | go_at_fn 106); have hh_ := ‹_ ∧ Below W.heap.size W _›; (with_reducible refine (k11 _ hh_.2).mono ?_); clear hh_; rintro e w2 ⟨rfl, rfl⟩) | ((first | go_at_call 106 | go_at_fn 106); have hh_ := ‹_ ∧ Below W.heap.size W _›; (with_reducible refine (k01 _ hh_.2).mono ?_); clear hh_; rintro e w2 ⟨rfl, rfl⟩) | ((first | go_at_call 106 | go_at_fn 106); have hh_ := ‹_ ∧ Below W.heap.size W _›; (with_reducible refine (k10 _ hh_.2).mono ?_); clear hh_; rintro e w2 ⟨rfl, rfl⟩) | ((first | go_at_call 106 | go_at_fn 106); have hh_ := ‹_ ∧ Below W.heap.size W _›; (with_reducible refine (k00 _ hh_.2).mono ?_); clear hh_; rintro e w2 ⟨rfl, rfl⟩))
 all_goals
  go_wp2
  go_ret
  have hh_ := ‹_ ∧ Below W.heap.size W _›
  exact ⟨by first | (rw [HE.out]; rfl) | (rw [HE1.out]; rfl), hh_.2⟩
set_option maxHeartbeats 4000000 in
theorem impl_fromHeights.callsM (A0 : Option Addr) (c0 : Nat) (T : List (List Int)) (w : World) (hs : SmallH T) (hr0 : Kd.C (Kd.slice 3 (Kd.int .i64)) w A0 T.length T) (hc0 : T.length ≤ c0) :
  Calls Try.prog 93 #[.slice A0 T.length c0] w (RetM w (fromT (atF T) (T.length - 1))) := by
 have h7 := hs.few
 have h1 := hs.pos
 have eg : ∀ args w, (callFunc 107 args).run Try.prog w = .ok (.enter 107 args) w := enters_of Try.func107 (by kernel_rfl) rfl
 have HTB := Aside0.mk (fun (b b2 : Nat) (W : World) (hb : Below w.heap.size w W) (hx0 : W.cell? ⟨b, 0, none⟩ = some (.slice A0 T.length c0)) (hx1 : W.cell? ⟨b2, 0, none⟩ = some (.func (.func 106) #[] #[.pointer (some ⟨b, 0, none⟩)])) =>
  (impl_tableC.callsM 107 #[.pointer (some ⟨b2, 0, none⟩)] (fromF (atF T)) (T.length - 1) (T.length - 1) W (by omega) (by omega) eg
   (fun i j W1 hi hj hb1 => fromHeights_2.calls T i j b b2 A0 c0 W1 hs hi hj (Kd.C_below (Kd.C_below hr0 hb) hb1) (pw_cell_below hb1 hx0) (pw_cell_below hb1 hx1))).mono fun e w' h => RetM.mono_ hb h)
 rw [show (((T.length - 1 : Nat) : Nat) : Int) = (T.length : Int) - 1 by omega] at HTB
 have hsz : (w.alloc (.cells #[.slice A0 T.length c0] 22)).heap.size = w.heap.size + 1 := by first | (simp; done) | rfl
 have hn := blk_new (w.alloc (.cells #[.slice A0 T.length c0] 22)) (.cells #[.func (.func 106) #[] #[.pointer (some ⟨w.heap.size, 0, none⟩)]] 62)
 rw [hsz] at hn
 have HB1 := Aside0.mk (below_alloc (below_alloc (Below.refl w.heap.size w) (.cells #[.slice A0 T.length c0] 22)) (.cells #[.func (.func 106) #[] #[.pointer (some ⟨w.heap.size, 0, none⟩)]] 62))
 have hy0 : ((w.alloc (.cells #[.slice A0 T.length c0] 22)).alloc (.cells #[.func (.func 106) #[] #[.pointer (some ⟨w.heap.size, 0, none⟩)]] 62)).cell? ⟨w.heap.size, 0, none⟩ = some (.slice A0 T.length c0) := blk_cell (blk_alloc (blk_new w (.cells #[.slice A0 T.length c0] 22)) (.cells #[.func (.func 106) #[] #[.pointer (some ⟨w.heap.size, 0, none⟩)]] 62)) 0
 have hy1 : ((w.alloc (.cells #[.slice A0 T.length c0] 22)).alloc (.cells #[.func (.func 106) #[] #[.pointer (some ⟨w.heap.size, 0, none⟩)]] 62)).cell? ⟨w.heap.size + 1, 0, none⟩ = some (.func (.func 106) #[] #[.pointer (some ⟨w.heap.size, 0, none⟩)]) := blk_cell hn 0
 have HY := Aside0.mk (And.intro hy0 hy1)
 clear hr0 hs eg hn hy0 hy1
 go_enter Try.func93, Try.ntmps93
 go_wp2_with (go_at_call 101; refine (HTB.out _ _ _ HB1.out HY.out.1 HY.out.2).mono ?_; rintro e w' ⟨g0, gs, rfl, hm, hb⟩; have HM := Aside0.mk hm; have HB2 := Aside0.mk hb; clear hm hb)
 go_ret
 exact ⟨g0, gs, rfl, HM.out, HB2.out⟩
def impl_fromHeights.f (l0 : List (List Int)) : Option (List (List Int)) := if smallB l0 = true then some (fromT (atF l0) (l0.length - 1)) else none
theorem impl_fromHeights.calls (A0 : Option Addr) (c0 : Nat) (l0 : List (List Int)) (r : List (List Int)) (w : World) (hr0 : Kd.C (Kd.slice 3 (Kd.int .i64)) w A0 l0.length l0) (hc0 : l0.length ≤ c0) (h : impl_fromHeights.f l0 = some r) :
  Calls Try.prog 93 #[.slice A0 l0.length c0] w fun e w' => ∃ v0_ : Value, e = .returned (v0_) ∧ Kd.S (Kd.slice 3 (Kd.int .i64)) 34 w' w.heap.size (fun _ => True) v0_ r ∧ Below w.heap.size w w' := by
 unfold impl_fromHeights.f at h
 by_cases hs : smallB l0 = true
 ·rw [if_pos hs] at h
  obtain rfl := Option.some.inj h
  have hq := (smallB_iff l0).1 hs
  have h2 := hq.few
  refine (impl_fromHeights.callsM A0 c0 l0 w hq hr0 hc0).mono ?_
  rintro e w' ⟨g0, gs, rfl, hm, hb⟩
  exact ⟨_, rfl, hm.S (by rw [fromT, tableL_length]; omega) (fun k hk => by rw [fromT, tableL_length] at hk; rw [fromT, tableL_get _ _ _ _ hk, rowL_length]; omega), hb⟩
 ·rw [if_neg hs] at h
  cases h
end Go.Proofs.Ythlgclfhoeakgaa

namespace Go.Proofs.Ythlgclfhoeakgaa
open Go.RowKit Go.Proofs.YthlgclfhoeakgaaW.PrintWords Go.Proofs.YthlgclfhoeakgaaW.PrintLast Go.Proofs.YthlgclfhoeakgaaW.PrintMore
set_option linter.unusedVariables false
set_option linter.unusedSimpArgs false

theorem addr_zero (a : Addr) : a.add 0 = a := by cases a; rfl
/-- The least, and the greatest, of the first j + 1 numbers. -/
def minTo (l : List Int) : Nat → Int
 | 0 => rd l 0
 | j + 1 => if rd l ((j + 1 : Nat) : Int) < minTo l j then rd l ((j + 1 : Nat) : Int) else minTo l j
def maxTo (l : List Int) : Nat → Int
 | 0 => rd l 0
 | j + 1 => if maxTo l j < rd l ((j + 1 : Nat) : Int) then rd l ((j + 1 : Nat) : Int) else maxTo l j
set_option maxHeartbeats 2000000 in
theorem slices_Min.calls' (A0 : Option Addr) (c0 : Nat) (l0 : List Int) (w : World) (h1 : 1 ≤ l0.length) (hr0 : Kd.C (Kd.int .i64) w A0 l0.length l0) :
  Calls Try.prog 104 #[.slice A0 l0.length c0] w fun e w' => e = .returned (.int .i64 (minTo l0 (l0.length - 1))) ∧ w = w' := by
 have hm := hr0.2.1
 obtain ⟨ad, e0, hx0⟩ := Kd.at_int hr0 (0 : Nat) (by omega) (by omega)
 cases e0
 have HR0 := Aside0.mk hr0
 clear hr0
 have hz1 : ¬ (l0.length : Int) < 1 := by omega
 replace hx0 : w.cell? ad = some (.int .i64 (rd l0 0)) := by rw [Int.toNat_natCast, addr_zero] at hx0; exact hx0
 go_enter Try.func104, Try.ntmps104
 go_wp2
 go_loop [3, 4] (fun s3 s4 => ∃ j : Nat, 1 ≤ j ∧ j ≤ l0.length ∧ s4 = .int .i64 j ∧ s3 = .int .i64 (minTo l0 (j - 1))) (fun _ s4 => l0.length - (intOf s4).toNat)
 case atStart => exact ⟨1, Nat.le_refl _, h1, rfl, rfl⟩
 case round =>
  obtain ⟨j, hj1, hj, rfl, rfl⟩ := hrel
  by_cases hlt : j < l0.length
  ·have hz : (j : Int) < (l0.length : Int) := by omega
   obtain ⟨ad', e0, hx⟩ := Kd.at_int HR0.out j (by omega) hz
   cases e0
   simp only [Int.toNat_natCast] at hx
   have HS := Aside0.mk (show minTo l0 (j + 1 - 1) = (if rd l0 (j : Int) < minTo l0 (j - 1) then rd l0 (j : Int) else minTo l0 (j - 1)) by obtain ⟨k, rfl⟩ : ∃ k, j = k + 1 := ⟨j - 1, by omega⟩; rfl)
   go_wp2
   go_round
   case rel => exact ⟨j + 1, by omega, by omega, by go_num, by rw [HS.out]⟩
   case measure => simp [intOf]; omega
  ·have hz : ¬ (j : Int) < (l0.length : Int) := by omega
   have : j = l0.length := by omega
   subst this
   go_wp2
   go_ret
   exact ⟨rfl, rfl⟩
set_option maxHeartbeats 2000000 in
theorem slices_Max.calls' (A0 : Option Addr) (c0 : Nat) (l0 : List Int) (w : World) (h1 : 1 ≤ l0.length) (hr0 : Kd.C (Kd.int .i64) w A0 l0.length l0) :
  Calls Try.prog 105 #[.slice A0 l0.length c0] w fun e w' => e = .returned (.int .i64 (maxTo l0 (l0.length - 1))) ∧ w = w' := by
 have hm := hr0.2.1
 obtain ⟨ad, e0, hx0⟩ := Kd.at_int hr0 (0 : Nat) (by omega) (by omega)
 cases e0
 have HR0 := Aside0.mk hr0
 clear hr0
 have hz1 : ¬ (l0.length : Int) < 1 := by omega
 replace hx0 : w.cell? ad = some (.int .i64 (rd l0 0)) := by rw [Int.toNat_natCast, addr_zero] at hx0; exact hx0
 go_enter Try.func105, Try.ntmps105
 go_wp2
 go_loop [3, 4] (fun s3 s4 => ∃ j : Nat, 1 ≤ j ∧ j ≤ l0.length ∧ s4 = .int .i64 j ∧ s3 = .int .i64 (maxTo l0 (j - 1))) (fun _ s4 => l0.length - (intOf s4).toNat)
 case atStart => exact ⟨1, Nat.le_refl _, h1, rfl, rfl⟩
 case round =>
  obtain ⟨j, hj1, hj, rfl, rfl⟩ := hrel
  by_cases hlt : j < l0.length
  ·have hz : (j : Int) < (l0.length : Int) := by omega
   obtain ⟨ad', e0, hx⟩ := Kd.at_int HR0.out j (by omega) hz
   cases e0
   simp only [Int.toNat_natCast] at hx
   have HS := Aside0.mk (show maxTo l0 (j + 1 - 1) = (if maxTo l0 (j - 1) < rd l0 (j : Int) then rd l0 (j : Int) else maxTo l0 (j - 1)) by obtain ⟨k, rfl⟩ : ∃ k, j = k + 1 := ⟨j - 1, by omega⟩; rfl)
   go_wp2
   go_round
   case rel => exact ⟨j + 1, by omega, by omega, by go_num, by rw [HS.out]⟩
   case measure => simp [intOf]; omega
  ·have hz : ¬ (j : Int) < (l0.length : Int) := by omega
   have : j = l0.length := by omega
   subst this
   go_wp2
   go_ret
   exact ⟨rfl, rfl⟩
def slices_Min_int_int.f (l0 : List Int) : Option Int := if 1 ≤ l0.length then some (minTo l0 (l0.length - 1)) else none
theorem slices_Min_int_int.calls (A0 : Option Addr) (c0 : Nat) (l0 : List Int) (r : Int) (w : World) (hr0 : Kd.C (Kd.int .i64) w A0 l0.length l0) (hc0 : l0.length ≤ c0) (h : slices_Min_int_int.f l0 = some r) :
  Calls Try.prog 104 #[.slice A0 l0.length c0] w fun e w' => e = .returned (.int .i64 r) ∧ Drawn0 w w' := by
 unfold slices_Min_int_int.f at h
 by_cases h1 : 1 ≤ l0.length
 ·rw [if_pos h1] at h
  obtain rfl := Option.some.inj h
  exact (slices_Min.calls' A0 c0 l0 w h1 hr0).mono fun e w' h => ⟨h.1, by rw [← h.2]; exact Drawn0.refl _⟩
 ·rw [if_neg h1] at h
  cases h
def slices_Max_int_int.f (l0 : List Int) : Option Int := if 1 ≤ l0.length then some (maxTo l0 (l0.length - 1)) else none
theorem slices_Max_int_int.calls (A0 : Option Addr) (c0 : Nat) (l0 : List Int) (r : Int) (w : World) (hr0 : Kd.C (Kd.int .i64) w A0 l0.length l0) (hc0 : l0.length ≤ c0) (h : slices_Max_int_int.f l0 = some r) :
  Calls Try.prog 105 #[.slice A0 l0.length c0] w fun e w' => e = .returned (.int .i64 r) ∧ Drawn0 w w' := by
 unfold slices_Max_int_int.f at h
 by_cases h1 : 1 ≤ l0.length
 ·rw [if_pos h1] at h
  obtain rfl := Option.some.inj h
  exact (slices_Max.calls' A0 c0 l0 w h1 hr0).mono fun e w' h => ⟨h.1, by rw [← h.2]; exact Drawn0.refl _⟩
 ·rw [if_neg h1] at h
  cases h
end Go.Proofs.Ythlgclfhoeakgaa

namespace Go.Proofs.Ythlgclfhoeakgaa
open Go.RowKit Go.Proofs.YthlgclfhoeakgaaW.PrintWords Go.Proofs.YthlgclfhoeakgaaW.PrintLast Go.Proofs.YthlgclfhoeakgaaW.PrintMore
set_option linter.unusedVariables false
set_option linter.unusedSimpArgs false

def rowsOf (c : List (Nat × Nat)) : List (List Int) := c.map toRow
theorem rowsOf_snoc (c : List (Nat × Nat)) (d : Nat × Nat) : rowsOf (c ++ [d]) = rowsOf c ++ [toRow d] := by simp [rowsOf]
theorem rowsOf_length (c : List (Nat × Nat)) : (rowsOf c).length = c.length := by simp [rowsOf]
set_option maxHeartbeats 4000000 in
set_option maxRecDepth 100000 in
theorem impl_cells.callsG (g : Nat) (lb : Array Value) (p : Nat → Nat → Bool) (n : Nat) (w : World) (h1 : 1 ≤ n) (h6 : n ≤ 1000)
  (eg : ∀ args w, (callFunc g args).run Try.prog w = .ok (.enter g args) w)
  (hp : ∀ (i j : Nat) (W : World), 1 ≤ i → i < n → 1 ≤ j → j < n → Below w.heap.size w W → Gives Try.prog g (#[.int .i64 i, .int .i64 j] ++ lb) W (.bool (p i j))) :
  Calls Try.prog 94 #[.int .i64 n, .func (.func g) #[] lb] w (RetS w (rowsOf (cellsOf n p))) := by
 have HP := Aside0.mk hp
 have HB := Aside0.mk (Below.refl w.heap.size w)
 clear hp
 go_enter Try.func94, Try.ntmps94
 go_wp2_with (first | ((with_reducible refine gate_dst (N := 8) rfl ?_); refine Kd.S_lit (Kd.slice 3 (Kd.int .i64)) _ 34 ?hg (N := 8) ?hd (xs := ([] : List (List Int))) (inner := []) (ok := fun _ => True) (okp := fun _ => True) ?hr ?hp (fun _ hk => hk) trivial (Below.refl _ _) (Nat.le_refl _) (by simp) ?_; (case hd => rfl); (case hg => rfl); (case hr => first | (go_simp; done) | (go_simp; rfl)); (case hp => exact (Reps.none _ _)); intro v154 w2 ho3 hb hg_ hnew_; clear hg_ hnew_; have n0_ := Aside0.mk (Kd.S_lower ho3 HB.out.size); have n1_ := Aside0.mk (below_step HB.out hb); clear HB; have HO := n0_; have HB := n1_; clear n0_ n1_; clear hb ho3))
 go_loopg [5, 6, 7] n (fun gg s5 s6 s7 wr => ∃ i : Nat, 1 ≤ i ∧ i ≤ n ∧ n - i ≤ gg ∧ s6 = .int .i64 i ∧ Aside0 (Kd.S (Kd.slice 3 (Kd.int .i64)) 34 wr w.heap.size (fun _ => True) s5 (rowsOf (allC p (n - 1) (i - 1)))) ∧ Aside0 (Below w.heap.size w wr))
 case atStart => exact ⟨1, Nat.le_refl _, h1, by omega, rfl, HO, HB⟩
 case round =>
  clear HO HB
  obtain ⟨i, hi1, hi, hg, rfl, HO, HB⟩ := hrel
  by_cases hlt : i < n
  ·have hz : (i : Int) < (n : Int) := by omega
   obtain ⟨k, hk⟩ : ∃ k, i = k + 1 := ⟨i - 1, by omega⟩
   obtain ⟨pre, hpre⟩ : ∃ q, q = allC p (n - 1) (i - 1) := ⟨_, rfl⟩
   have hnx : allC p (n - 1) i = pre ++ rowC p i (n - 1) := by rw [hpre, hk]; rfl
   have hpl : pre.length ≤ 1000000 := by
    have h2 := allC_length p (n - 1) (i - 1)
    have h3 : (i - 1) * (n - 1) ≤ 1000 * 1000 := Nat.mul_le_mul (by omega) (by omega)
    rw [hpre]; omega
   rw [← hpre] at HO
   have HNX := Aside0.mk hnx
   have HPL := Aside0.mk hpl
   clear hpre hnx hpl hk
   go_wp2
   go_loopg [5, 7] n (fun gj s5 s7 wr2 => ∃ j : Nat, 1 ≤ j ∧ j ≤ n ∧ n - j ≤ gj ∧ s7 = .int .i64 j ∧ Aside0 (Kd.S (Kd.slice 3 (Kd.int .i64)) 34 wr2 w.heap.size (fun _ => True) s5 (rowsOf (pre ++ rowC p i (j - 1)))) ∧ Aside0 (Below w.heap.size w wr2))
   case atStart => exact ⟨1, Nat.le_refl _, h1, by omega, rfl, ⟨by rw [Nat.sub_self, rowC, List.append_nil]; exact HO.out⟩, HB⟩
   case round =>
    clear HO HB
    obtain ⟨j, hj1, hj, hgj, rfl, HO, HB⟩ := hrel
    by_cases hjt : j < n
    ·have hjz : (j : Int) < (n : Int) := by omega
     obtain ⟨acc, hacc⟩ : ∃ q, q = pre ++ rowC p i (j - 1) := ⟨_, rfl⟩
     have hst : pre ++ rowC p i j = acc ++ (if p i j = true then [(i, j)] else []) := by
      obtain ⟨m, hm⟩ : ∃ m, j = m + 1 := ⟨j - 1, by omega⟩
      rw [hacc, hm, Nat.add_sub_cancel, rowC, List.append_assoc]
     have hal : acc.length ≤ 1001000 := by
      have := rowC_length p i (j - 1)
      have := HPL.out
      rw [hacc, List.length_append]; omega
     rw [← hacc] at HO
     clear hacc
     have hcall := fun W hb => HP.out i j W hi1 hlt hj1 hjt hb
     cases hpp : p i j with
     | false =>
      rw [hpp] at hcall hst
      have HST := Aside0.mk (show pre ++ rowC p i (j + 1 - 1) = acc by rw [Nat.add_sub_cancel, hst]; simp)
      clear hst hal hpp
      have HCALL := Aside0.mk hcall
      clear hcall
      go_wp2_with (go_at_fn g; refine (HCALL.out _ HB.out).mono ?_; rintro e w1 ⟨rfl, hb⟩; have n0_ := Aside0.mk (Kd.S_below HO.out hb); have n1_ := Aside0.mk (below_step HB.out hb); clear HO HB hb; have HO := n0_; have HB := n1_; clear n0_ n1_)
      go_roundg (n - (j + 1))
      case measure => omega
      case rel => exact ⟨j + 1, by omega, by omega, by omega, by go_num, ⟨by rw [HST.out]; exact HO.out⟩, HB⟩
     | true =>
      rw [hpp] at hcall hst
      have HST := Aside0.mk (show rowsOf (pre ++ rowC p i (j + 1 - 1)) = rowsOf acc ++ [toRow (i, j)] by rw [Nat.add_sub_cancel, hst, if_pos rfl, rowsOf_snoc])
      have HAL := Aside0.mk (show (rowsOf acc).length ≤ 1001000 by rw [rowsOf_length]; exact hal)
      obtain ⟨racc, hracc⟩ : ∃ r, r = rowsOf acc := ⟨_, rfl⟩
      rw [← hracc] at HO HST HAL
      clear hst hal hpp hracc
      have HCALL := Aside0.mk hcall
      clear hcall
      obtain ⟨y, hy⟩ : ∃ y, y = toRow (i, j) := ⟨_, rfl⟩
      rw [← hy] at HST
      have Ny := Aside0.mk (show y = [(i : Int), (j : Int)] from hy)
      clear hy
      obtain ⟨v5, hv5⟩ : ∃ v, v = u5 := ⟨_, rfl⟩
      subst hv5
      go_wp2_with (first
       | (go_at_fn g; refine (HCALL.out _ HB.out).mono ?_; rintro e w1 ⟨rfl, hb⟩; have n0_ := Aside0.mk (Kd.S_below HO.out hb); have n1_ := Aside0.mk (below_step HB.out hb); clear HO HB hb; have HO := n0_; have HB := n1_; clear n0_ n1_)
       | ((with_reducible refine gate_dst (N := 26) rfl ?_); refine Kd.R_lit (Kd.int .i64) _ 3 ?hg (N := 26) ?hd (xs := ([(i : Int), (j : Int)] : List Int)) (inner := [.int .i64 i, .int .i64 j]) (ok := fun _ => True) (okp := fun _ => True) ?hr ?hp (fun _ hk => hk) trivial (Below.refl _ _) (Nat.le_refl _) (by simp) ?_; (case hd => rfl); (case hg => rfl); (case hr => first | (go_simp; done) | (go_simp; rfl)); (case hp => exact (Reps.one (show Kd.M (Kd.int .i64) _ _ _ (i : Int) [.int .i64 i] from rfl) (Reps.one (show Kd.M (Kd.int .i64) _ _ _ (j : Int) [.int .i64 j] from rfl) (Reps.none _ _)))); intro v183 w22 ho23 hb hg_ hnew_; clear hg_ hnew_; rw [← Ny.out] at ho23; have n1_ := Aside0.mk (Kd.S_elder' HO.out (Kd.R_base ho23) hb); have n2_ := Aside0.mk (Kd.R_lower ho23 (below_size HB.out)); have n3_ := Aside0.mk (below_step HB.out hb); clear HO HB; have HO := n1_; have HR := n2_; have HB := n3_; clear n1_ n2_ n3_; clear hb ho23; obtain ⟨Ao25, co25, eo25⟩ := Kd.R_slice HR.out; subst eo25)
       | ((with_reducible refine gate_builtin (b := .append) (xs := #[.tmp 23, .tmp 27]) rfl ?_); at_builtin; refine Kd.S_append (Kd.slice 3 (Kd.int .i64)) (w0 := w) w.heap.size rfl (.tmp 23) (.tmp 27) 22 34 (.slice none 0 0) 24 rfl Try.underlying22 info_rows rfl (by decide) (by omega) v5 racc y [.slice Ao25 y.length co25] (fun _ => True) (fun k_ => some k_ = (.slice Ao25 y.length co25 : Value).ownBlock) rfl rfl ?aP (fun k_ hk_ => ((Kd.R_mono (ok' := fun k_ => ((fun _ => True)) k_ ∧ some k_ ≠ (v5 : Value).ownBlock) (Kd.R_apart' (HR.out) (Kd.S_typed HO.out) (by decide)) (fun k_ hk => ⟨trivial, hk.2⟩))).1 k_ hk_.symm) ?aF ?aO ?aB ?aS ?aL ?_; (case aP => exact Kd.M_row (Kd.R_mono (Kd.R_tight rfl (Kd.R_mono (ok' := fun k_ => ((fun _ => True)) k_ ∧ some k_ ≠ (v5 : Value).ownBlock) (Kd.R_apart' (HR.out) (Kd.S_typed HO.out) (by decide)) (fun k_ hk => ⟨trivial, hk.2⟩))) (fun _ h_ => h_))); (case aB => exact (by repeat (first | (with_reducible first | exact HB.out | apply below_alloc | apply pw_below_drewN | apply below_drew1) | exact HB.out))); (case aF => exact (fun _ _ => trivial)); (case aO => exact (by (with_reducible repeat (first | apply Kd.S_alloc | apply Kd.S_drewN | apply Kd.S_drew)); exact Kd.S_mono HO.out (fun k_ hk => ⟨trivial, fun e_ => hk.2 e_⟩))); (case aS => exact (below_size (by repeat (first | (with_reducible first | exact HB.out | apply below_alloc | apply pw_below_drewN | apply below_drew1) | exact HB.out)))); (case aL => have := HAL.out; omega); intro v160 w23 ho hb hg hat; rw [← HST.out] at ho; have n0_ := Aside0.mk (hb); have n1_ := Aside0.mk (ho); clear HB HO HR; have HB := n0_; have HO := n1_; clear n0_ n1_; clear ho hb hg hat))
      go_roundg (n - (j + 1))
      case measure => omega
      case rel => exact ⟨j + 1, by omega, by omega, by omega, by go_num, HO, HB⟩
    ·have hjz : ¬ (j : Int) < (n : Int) := by omega
     have hjn : j = n := by omega
     subst hjn
     have HD := Aside0.mk (show allC p (j - 1) (i + 1 - 1) = pre ++ rowC p i (j - 1) by rw [Nat.add_sub_cancel]; exact HNX.out)
     go_wp2
     go_roundg (j - (i + 1))
     case measure => omega
     case rel => exact ⟨i + 1, by omega, by omega, by omega, by go_num, ⟨by rw [HD.out]; exact HO.out⟩, HB⟩
  ·have hz : ¬ (i : Int) < (n : Int) := by omega
   have hin : i = n := by omega
   subst hin
   go_wp2
   go_ret
   exact ⟨_, rfl, HO.out, HB.out⟩
theorem coloured_1.calls (i j : Nat) (colour : Int) (b : Nat) (W : World) (hi : i < 1000) (hj : j < 1000) (hx : W.cell? ⟨b, 0, none⟩ = some (.int .i64 colour)) :
  Gives Try.prog 95 #[.int .i64 i, .int .i64 j, .pointer (some ⟨b, 0, none⟩)] W (.bool (colP colour i j)) := by
 unfold Gives
 go_enter Try.func95, Try.ntmps95
 go_wp2
 go_ret
 exact ⟨by unfold colP; rfl, Below.refl _ _⟩
set_option maxHeartbeats 1000000 in
theorem impl_coloured.callsG (n : Nat) (colour : Int) (w : World) (h1 : 1 ≤ n) (h6 : n ≤ 1000) :
  Calls Try.prog 83 #[.int .i64 n, .int .i64 colour] w (RetS w (rowsOf (cellsOf n (colP colour)))) := by
 have eg : ∀ args w, (callFunc 95 args).run Try.prog w = .ok (.enter 95 args) w := enters_of Try.func95 (by kernel_rfl) rfl
 have hB2 : Below w.heap.size w (w.alloc (.cells #[.int .i64 colour] 3)) := below_alloc (Below.refl _ _) _
 have hx : (w.alloc (.cells #[.int .i64 colour] 3)).cell? ⟨w.heap.size, 0, none⟩ = some (.int .i64 colour) := by rw [World.cell?_alloc_at _ _ _ _ rfl]; rfl
 have hcon := impl_cells.callsG 95 #[.pointer (some ⟨w.heap.size, 0, none⟩)] (colP colour) n (w.alloc (.cells #[.int .i64 colour] 3)) h1 h6 eg
  (fun i j W _ hi _ hj hb => coloured_1.calls i j colour _ W (by omega) (by omega) (pw_cell_below hb hx))
 have HB := Aside0.mk hB2
 clear hB2 eg
 go_enter Try.func83, Try.ntmps83
 go_wp2_with (go_at_call 94; refine hcon.mono ?_; rintro e w' ⟨v, rfl, hS, hb⟩; have HS := Aside0.mk (Kd.S_lower hS HB.out.size); have HB2 := Aside0.mk (below_step HB.out hb); clear hS hb)
 go_ret
 exact ⟨_, rfl, HS.out, HB2.out⟩
end Go.Proofs.Ythlgclfhoeakgaa

namespace Go.Proofs.Ythlgclfhoeakgaa
open Go.RowKit Go.Proofs.YthlgclfhoeakgaaW.PrintWords Go.Proofs.YthlgclfhoeakgaaW.PrintLast Go.Proofs.YthlgclfhoeakgaaW.PrintMore
set_option linter.unusedVariables false
set_option linter.unusedSimpArgs false

/-- From W to W' nothing has changed but the blocks of S, and new ones. -/
structure Touch (W W' : World) (S : Nat → Prop) : Prop where
 os : W'.os = W.os
 tape : W'.tape = W.tape
 output : W'.output = W.output
 kept : Kept W W' S
theorem Touch.of_below {W W' : World} (h : Below W.heap.size W W') (S : Nat → Prop) : Touch W W' S := ⟨h.os, h.tape, h.output, Kept.of_below h S⟩
theorem Touch.refl (W : World) (S : Nat → Prop) : Touch W W S := Touch.of_below (Below.refl _ _) S
theorem Touch.trans {W W1 W2 : World} {S S2 : Nat → Prop} (h : Touch W W1 S) (k : Touch W1 W2 S2) (hs : ∀ k, S2 k → S k ∨ W.heap.size ≤ k) : Touch W W2 S :=
 ⟨k.os.trans h.os, k.tape.trans h.tape, k.output.trans h.output, h.kept.then_ k.kept hs⟩
theorem Touch.then_below {W W1 W2 : World} {S : Nat → Prop} (h : Touch W W1 S) (k : Below W1.heap.size W1 W2) : Touch W W2 S :=
 h.trans (Touch.of_below k (fun _ => False)) (fun _ hk => hk.elim)
theorem Touch.mono {W W' : World} {S S' : Nat → Prop} (h : Touch W W' S) (hs : ∀ k, S k → S' k) : Touch W W' S' := ⟨h.os, h.tape, h.output, h.kept.mono hs⟩
theorem Touch.size {W W' : World} {S : Nat → Prop} (h : Touch W W' S) : W.heap.size ≤ W'.heap.size := h.kept.1
theorem Touch.heap {W W' : World} {S : Nat → Prop} (h : Touch W W' S) {k : Nat} (hk : k < W.heap.size) (hn : ¬ S k) : W'.heap[k]? = W.heap[k]? := h.kept.2 k hk hn
theorem Touch.below {B : Nat} {W W' : World} {S : Nat → Prop} (h : Touch W W' S) (hS : ∀ k, S k → B ≤ k) (hB : B ≤ W.heap.size) : Below B W W' :=
 ⟨h.os, h.tape, h.output, h.kept.1, fun i hi => h.kept.2 i (by omega) (fun hk => by have := hS i hk; omega)⟩
theorem Touch.set {W W1 : World} {S : Nat → Prop} (h : Touch W W1 S) (p : Addr) (hp : S p.block ∨ W.heap.size ≤ p.block) (u : Value) : Touch W (W1.setCell p u) S := by
 refine ⟨?_, ?_, ?_, h.kept.setCell hp u⟩
 ·exact (show (W1.setCell p u).os = W1.os by simp [World.setCell]).trans h.os
 ·exact (show (W1.setCell p u).tape = W1.tape by simp [World.setCell]).trans h.tape
 ·exact (show (W1.setCell p u).output = W1.output by simp [World.setCell]).trans h.output
theorem Touch.blk {W W' : World} {S : Nat → Prop} (h : Touch W W' S) {g : Nat} {o : Obj} (hb : W.heap[g]? = some o) (hn : ¬ S g) : W'.heap[g]? = some o := (h.heap (blk_lt hb) hn).trans hb
theorem Touch.F {α : Type} {d : Kd α} {W W' : World} {S ok : Nat → Prop} {A : Option Addr} {n : Nat} {xs : List α} (h : Touch W W' S) (hf : Kd.F d W ok A n xs) (hn : ∀ k, ok k → ¬ S k) : Kd.F d W' ok A n xs := Kd.F_kept hf h.kept hn
/-- A state that a function value writes: St j W ok: j calls have been; its blocks are ok. -/
structure Stays (St : Nat → World → (Nat → Prop) → Prop) : Prop where
 lt : ∀ {j W ok}, St j W ok → ∀ k, ok k → k < W.heap.size
 step : ∀ {j W W' ok}, St j W ok → (∀ k, ok k → W'.heap[k]? = W.heap[k]?) → St j W' ok
theorem Stays.touch {St : Nat → World → (Nat → Prop) → Prop} (h : Stays St) {j : Nat} {W W' : World} {ok S : Nat → Prop} (hs : St j W ok) (ht : Touch W W' S) (hn : ∀ k, ok k → ¬ S k) : St j W' ok :=
 h.step hs (fun k hk => ht.heap (h.lt hs k hk) (hn k hk))
theorem Stays.below {St : Nat → World → (Nat → Prop) → Prop} (h : Stays St) {j : Nat} {W W' : World} {ok : Nat → Prop} (hs : St j W ok) (ht : Below W.heap.size W W') : St j W' ok :=
 h.step hs (fun k hk => ht.block k (h.lt hs k hk))
/-- What a call of the function value leaves. -/
def Stepped (St : Nat → World → (Nat → Prop) → Prop) (j : Nat) (W : World) (ok : Nat → Prop) (e : Ending) (W' : World) : Prop :=
 e = .returned (.bool true) ∧ ∃ ok', St j W' ok' ∧ Touch W W' ok ∧ ∀ k, ok' k → ok k ∨ W.heap.size ≤ k
end Go.Proofs.Ythlgclfhoeakgaa
