import Derived.Test.YteknfnknjebkcaaProg
import Derived.Below
import Derived.Deep.Draws
import Derived.Deep.AppendLies
import Derived.Maps.AppendAt
import Derived.OwnWalk
import Derived.Laws.BytesArg
import Derived.Laws.MakeOwn
import Derived.Laws.OwnMore
import Derived.Deep.OwnRows
import Derived.Tactics
import Derived.Lib.ConvBytes
import Derived.Laws.Slices
import Derived.WalkKit
import Derived.KernelRfl
import Derived.RowKit3
import Derived.Deep.LoopGhost
import Derived.Deep.QuietTactic
import Derived.BigQuiet
import Derived.WideLaws
import Derived.Deep.DeepCutAuto
import Derived.Deep.CutBlock
import Derived.Deep.RegionHeld3
import Derived.Laws.Rows
import Derived.Lib.AppendStr
import Derived.ArgAppend
import Derived.Laws.IdiomCopy
import Derived.OrdersHeld
import Derived.Laws.BitsLemmas
import Derived.RowKit
import Derived.Shelf.Abstract
import Derived.Test.YteknfnknjebkcaaWMore
import Derived.Test.YteknfnknjebkcaaWTab
import Derived.Test.YteknfnknjebkcaaWFour
import Derived.Test.YteknfnknjebkcaaHa
namespace Go.Proofs.Yteknfnknjebkcaa
open Go.RowKit Go.Proofs.YteknfnknjebkcaaW.PrintWords Go.Proofs.YteknfnknjebkcaaW.PrintLast Go.Proofs.YteknfnknjebkcaaW.PrintMore
set_option linter.unusedVariables false
set_option linter.unusedSimpArgs false

/-- A block of whole numbers. -/
def intBlk (W : World) (g : Nat) (l : List Int) : Prop := W.heap[g]? = some (.cells (l.map (Value.int .i64)).toArray 3 (0, 0))
/-- A block of rows, each in a block of its own. -/
def rowBlk (W : World) (g : Nat) (cs : List Value) : Prop := W.heap[g]? = some (.cells cs.toArray 31 (0, 0))

theorem intBlk_R {W : World} {base g : Nat} {ok : Nat → Prop} {l : List Int} (h : intBlk W g l) (hb : base ≤ g) (hok : ok g) (hl : l.length ≤ 1000000000000000) :
    Kd.R (Kd.int .i64) 3 W base ok (.slice (some ⟨g, 0, none⟩) l.length l.length) l := by
  refine ⟨fun k hk => ?_, l.map (Value.int .i64), ⟨by simp [Kd.int, Kd.scalar], .inr ⟨g, l.length, _, rfl, hb, h, Nat.le_refl _, by unfold maxLen; omega, by simp [Kd.int, Kd.scalar], by simp [Kd.int, Kd.scalar]; exact List.take_of_length_le (by simp)⟩⟩, ?_⟩
  · have : g = k := by simpa [Value.ownBlock] using hk
    exact this ▸ hok
  · refine ⟨by simp [Kd.int, Kd.scalar], fun j p hj => ?_⟩
    have hj2 : j < l.length := (List.getElem?_eq_some_iff.1 hj).1
    have hp : l[j] = p := (List.getElem?_eq_some_iff.1 hj).2
    show ((l.map (Value.int .i64)).drop (j * 1)).take 1 = [Value.int .i64 p]
    rw [Nat.mul_one, List.drop_eq_getElem_cons (by simpa using hj2)]
    simp [hp]

theorem rows_S {W : World} {base g0 : Nat} {gs : Nat → Nat} {xss : List (List Int)} (hn : xss.length ≤ 1000000000000000) (hb : base ≤ g0)
    (h0 : rowBlk W g0 ((List.range xss.length).map fun k => Value.slice (some ⟨gs k, 0, none⟩) (xss.getD k []).length (xss.getD k []).length))
    (hk : ∀ k, k < xss.length → base ≤ gs k ∧ gs k ≠ g0 ∧ (xss.getD k []).length ≤ 1000000000000000 ∧ intBlk W (gs k) (xss.getD k []))
    (hinj : ∀ k k', k < xss.length → k' < xss.length → gs k = gs k' → k = k') :
    Kd.S (Kd.slice 3 (Kd.int .i64)) 31 W base (fun _ => True) (.slice (some ⟨g0, 0, none⟩) xss.length xss.length) xss := by
  refine ⟨fun b => ((List.range xss.length).find? (fun k => gs k == b)).getD 0, fun k _ => trivial, (List.range xss.length).map fun k => Value.slice (some ⟨gs k, 0, none⟩) (xss.getD k []).length (xss.getD k []).length, ?_, ?_⟩
  · rw [List.length_zipIdx]
    exact ⟨by simp [Kd.tag, Kd.slice], .inr ⟨g0, xss.length, _, rfl, hb, h0, Nat.le_refl _, by unfold maxLen; omega, by simp [Kd.tag, Kd.slice], by simp [Kd.tag, Kd.slice]; exact List.take_of_length_le (by simp)⟩⟩
  · refine ⟨by simp [Kd.tag, Kd.slice], fun j p hj => ?_⟩
    have hj2 : j < xss.length := by have := (List.getElem?_eq_some_iff.1 hj).1; simpa using this
    have hp : p = (xss[j], j) := by
      have := (List.getElem?_eq_some_iff.1 hj).2
      rw [← this]; simp
    subst hp
    obtain ⟨h1, h2, h3, h4⟩ := hk j hj2
    have hg : xss.getD j [] = xss[j] := by simp [List.getD_eq_getElem?_getD, hj2]
    rw [hg] at h3 h4
    have hf : ((List.range xss.length).find? (fun k => gs k == gs j)).getD 0 = j := by
      cases hq : (List.range xss.length).find? (fun k => gs k == gs j) with
      | none =>
        have := List.find?_eq_none.1 hq j (by simpa using hj2)
        simp at this
      | some k =>
        have hm := List.mem_of_find?_eq_some hq
        have hs := List.find?_some hq
        exact hinj k j (by simpa using hm) hj2 (by simpa using hs)
    refine ⟨Value.slice (some ⟨gs j, 0, none⟩) xss[j].length xss[j].length, ?_, intBlk_R h4 h1 ⟨⟨trivial, by simp [Value.ownBlock, h2]⟩, hf⟩ h3⟩
    show (((List.range xss.length).map fun k => Value.slice (some ⟨gs k, 0, none⟩) (xss.getD k []).length (xss.getD k []).length).drop (j * 1)).take 1 = _
    rw [Nat.mul_one, List.drop_eq_getElem_cons (by simpa using hj2)]
    simp [hj2]

theorem blk_of_below {W W' : World} {g : Nat} {o : Obj} (h : W.heap[g]? = some o) (hb : Below W.heap.size W W') : W'.heap[g]? = some o := blk_below h hb

/-- A table of whole numbers of the call's own: each row in a block of its own. -/
structure MTab (W : World) (B g0 : Nat) (gs : Nat → Nat) (T : List (List Int)) : Prop where
  ge : B ≤ g0
  top : rowBlk W g0 ((List.range T.length).map fun k => Value.slice (some ⟨gs k, 0, none⟩) (T.getD k []).length (T.getD k []).length)
  each : ∀ k, k < T.length → B ≤ gs k ∧ gs k ≠ g0 ∧ intBlk W (gs k) (T.getD k [])
  inj : ∀ k k', k < T.length → k' < T.length → gs k = gs k' → k = k'
theorem MTab.below {W W' : World} {B g0 : Nat} {gs : Nat → Nat} {T : List (List Int)} (h : MTab W B g0 gs T) (hb : Below W.heap.size W W') : MTab W' B g0 gs T where
  ge := h.ge
  top := blk_below h.top hb
  each := fun k hk => ⟨(h.each k hk).1, (h.each k hk).2.1, blk_below (h.each k hk).2.2 hb⟩
  inj := h.inj
theorem MTab.drew {W : World} {B g0 : Nat} {gs : Nat → Nat} {T : List (List Int)} (h : MTab W B g0 gs T) : MTab W.drew B g0 gs T := h.below (below_drew (Below.refl _ _))
theorem MTab.drewN {W : World} {B g0 : Nat} {gs : Nat → Nat} {T : List (List Int)} (h : MTab W B g0 gs T) (n : Nat) : MTab (W.drewN n) B g0 gs T := h.below (pw_below_drewN (Below.refl _ _) n)
theorem MTab.alloc {W : World} {B g0 : Nat} {gs : Nat → Nat} {T : List (List Int)} (h : MTab W B g0 gs T) (o : Obj) : MTab (W.alloc o) B g0 gs T := h.below (below_alloc (Below.refl _ _) _)
theorem MTab.lower {W : World} {B B' g0 : Nat} {gs : Nat → Nat} {T : List (List Int)} (h : MTab W B g0 gs T) (hb : B' ≤ B) : MTab W B' g0 gs T where
  ge := Nat.le_trans hb h.ge
  top := h.top
  each := fun k hk => ⟨Nat.le_trans hb (h.each k hk).1, (h.each k hk).2.1, (h.each k hk).2.2⟩
  inj := h.inj
theorem MTab.S {W : World} {B g0 : Nat} {gs : Nat → Nat} {T : List (List Int)} (h : MTab W B g0 gs T) (hn : T.length ≤ 1000000000000000) (hl : ∀ k, k < T.length → (T.getD k []).length ≤ 1000000000000000) :
    Kd.S (Kd.slice 3 (Kd.int .i64)) 31 W B (fun _ => True) (.slice (some ⟨g0, 0, none⟩) T.length T.length) T :=
  rows_S hn h.ge h.top (fun k hk => ⟨(h.each k hk).1, (h.each k hk).2.1, hl k hk, (h.each k hk).2.2⟩) h.inj
theorem MTab.rowCell {W : World} {B g0 : Nat} {gs : Nat → Nat} {T : List (List Int)} (h : MTab W B g0 gs T) (i : Nat) (hi : i < T.length) : W.cell? ⟨g0, i, none⟩ = some (.slice (some ⟨gs i, 0, none⟩) (T.getD i []).length (T.getD i []).length) := by
  rw [blk_cell h.top]
  simp [hi]
theorem MTab.cell {W : World} {B g0 : Nat} {gs : Nat → Nat} {T : List (List Int)} (h : MTab W B g0 gs T) (i j : Nat) (hi : i < T.length) (hj : j < (T.getD i []).length) : W.cell? ⟨gs i, j, none⟩ = some (.int .i64 ((T.getD i []).getD j 0)) := by
  rw [blk_cell (h.each i hi).2.2]
  simp only [List.getElem?_toArray, List.getElem?_map, List.getD_eq_getElem?_getD (l := T.getD i []), List.getElem?_eq_getElem hj, Option.map_some, Option.getD_some]
theorem MTab.free {W : World} {B g0 : Nat} {gs : Nat → Nat} {T : List (List Int)} (h : MTab W B g0 gs T) (i j : Nat) (hi : i < T.length) : W.frozen? ⟨gs i, j, none⟩ = false := blk_frozen (h.each i hi).2.2 j
/-- T with v at (i, j). -/
def putT (T : List (List Int)) (i j : Nat) (v : Int) : List (List Int) := T.set i ((T.getD i []).set j v)
theorem putT_length (T : List (List Int)) (i j : Nat) (v : Int) : (putT T i j v).length = T.length := by simp [putT]
theorem putT_row (T : List (List Int)) (i j : Nat) (v : Int) (k : Nat) : ((putT T i j v).getD k []).length = (T.getD k []).length := by
  unfold putT
  simp only [List.getD_eq_getElem?_getD, List.getElem?_set]
  by_cases h : i = k
  · subst h
    by_cases h2 : i < T.length
    · simp [h2]
    · simp [h2]
  · simp [h]
theorem MTab.put {W : World} {B g0 : Nat} {gs : Nat → Nat} {T : List (List Int)} (h : MTab W B g0 gs T) (i j : Nat) (hi : i < T.length) (v : Int) : MTab (W.setCell ⟨gs i, j, none⟩ (.int .i64 v)) B g0 gs (putT T i j v) where
  ge := h.ge
  top := by
    have e : (List.range (putT T i j v).length).map (fun k => Value.slice (some ⟨gs k, 0, none⟩) ((putT T i j v).getD k []).length ((putT T i j v).getD k []).length) = (List.range T.length).map fun k => Value.slice (some ⟨gs k, 0, none⟩) (T.getD k []).length (T.getD k []).length := by
      rw [putT_length]
      apply List.map_congr_left
      intro k hk
      rw [putT_row]
    unfold rowBlk
    rw [e]
    exact blk_far h.top (h.each i hi).2.1.symm _
  each := fun k hk => by
    rw [putT_length] at hk
    refine ⟨(h.each k hk).1, (h.each k hk).2.1, ?_⟩
    by_cases e : k = i
    · subst e
      have e2 : (putT T k j v).getD k [] = (T.getD k []).set j v := by unfold putT; simp [List.getD_eq_getElem?_getD, hk]
      rw [e2]
      exact blk_put (h.each k hk).2.2 j _ (by simp)
    · have e2 : (putT T i j v).getD k [] = T.getD k [] := by
        unfold putT
        rw [List.getD_eq_getElem?_getD, List.getElem?_set_ne (fun e3 => e e3.symm), List.getD_eq_getElem?_getD]
      rw [e2]
      exact blk_far (h.each k hk).2.2 (fun e3 => e (h.inj k i hk hi e3)) _
  inj := fun k k' hk hk' => h.inj k k' (by rwa [putT_length] at hk) (by rwa [putT_length] at hk')
/-- What comes back is a table of the call's own, as T tells it; all else is as it was. -/
def RetM (w : World) (T : List (List Int)) (e : Ending) (w' : World) : Prop := ∃ (g0 : Nat) (gs : Nat → Nat), e = .returned (.slice (some ⟨g0, 0, none⟩) T.length T.length) ∧ MTab w' w.heap.size g0 gs T ∧ Below w.heap.size w w'
theorem info_rows : (Try.prog.info? 31).map (fun i => (i.zero, i.size, i.bytes)) = some (some (.slice none 0 0), 1, 24) := by kernel_rfl
theorem info_ints : (Try.prog.info? 3).map (fun i => (i.zero, i.size, i.bytes)) = some (some (.int .i64 0), 1, 8) := by kernel_rfl

theorem madeRows (m : Nat) : madeCells #[Value.slice none 0 0] m = (List.replicate m (Value.slice none 0 0)).toArray := by
  apply Array.ext
  · simp [madeCells]
  · intro i h1 h2; simp [madeCells, Nat.mod_one]
theorem madeInts (m : Nat) : madeCells #[Value.int .i64 0] m = ((List.replicate m (0 : Int)).map (Value.int .i64)).toArray := by
  apply Array.ext
  · simp [madeCells]
  · intro i h1 h2; simp [madeCells, Nat.mod_one]


end Go.Proofs.Yteknfnknjebkcaa
