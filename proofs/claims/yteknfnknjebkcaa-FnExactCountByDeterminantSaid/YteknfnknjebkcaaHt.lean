import Derived.Test.YteknfnknjebkcaaProg
import Derived.Below
import Derived.Deep.Draws
import Derived.Deep.AppendLies
import Derived.Maps.AppendAt
import Derived.OwnWalk
import Derived.Laws.BytesArg
import Derived.Laws.MakeOwn
import Derived.Laws.OwnMore
import Derived.Deep.OwnRows
import Derived.Tactics
import Derived.Lib.ConvBytes
import Derived.Laws.Slices
import Derived.WalkKit
import Derived.KernelRfl
import Derived.RowKit3
import Derived.Deep.LoopGhost
import Derived.Deep.QuietTactic
import Derived.BigQuiet
import Derived.WideLaws
import Derived.Deep.DeepCutAuto
import Derived.Deep.CutBlock
import Derived.Deep.RegionHeld3
import Derived.Laws.Rows
import Derived.Lib.AppendStr
import Derived.ArgAppend
import Derived.Laws.IdiomCopy
import Derived.OrdersHeld
import Derived.Laws.BitsLemmas
import Derived.RowKit
import Derived.Shelf.Abstract
import Derived.Test.YteknfnknjebkcaaWMore
import Derived.Test.YteknfnknjebkcaaWTab
import Derived.Test.YteknfnknjebkcaaWFour
import Derived.Test.YteknfnknjebkcaaHa
import Derived.Test.YteknfnknjebkcaaHm
namespace Go.Proofs.Yteknfnknjebkcaa
open Go.RowKit Go.Proofs.YteknfnknjebkcaaW.PrintWords Go.Proofs.YteknfnknjebkcaaW.PrintLast Go.Proofs.YteknfnknjebkcaaW.PrintMore
set_option linter.unusedVariables false
set_option linter.unusedSimpArgs false

/-- The table with f at each place. -/
def rowL (f : Nat → Nat → Int) (i cols : Nat) : List Int := (List.range cols).map (f i)
def tableL (f : Nat → Nat → Int) (rows cols : Nat) : List (List Int) := (List.range rows).map fun i => rowL f i cols
theorem tableL_length (f : Nat → Nat → Int) (rows cols : Nat) : (tableL f rows cols).length = rows := by simp [tableL]
theorem rowL_length (f : Nat → Nat → Int) (i cols : Nat) : (rowL f i cols).length = cols := by simp [rowL]
theorem tableL_get (f : Nat → Nat → Int) (rows cols k : Nat) (h : k < rows) : (tableL f rows cols).getD k [] = rowL f k cols := by simp [tableL, List.getD_eq_getElem?_getD, h]

/-- The table as it is after i rows: rows gs 0 .. gs (i - 1) are whole, the others are not there yet. -/
structure TabAt (w wr : World) (g0 rows cols : Nat) (f : Nat → Nat → Int) (i : Nat) (gs : Nat → Nat) : Prop where
  below : Below w.heap.size w wr
  ge : w.heap.size ≤ g0
  top : rowBlk wr g0 ((List.range i).map (fun k => Value.slice (some ⟨gs k, 0, none⟩) cols cols) ++ List.replicate (rows - i) (.slice none 0 0))
  each : ∀ k, k < i → g0 < gs k ∧ intBlk wr (gs k) (rowL f k cols)
  inj : ∀ k k', k < k' → k' < i → gs k < gs k'

/-- The row i while it is filled: j numbers are there. -/
structure RowAt (w wr : World) (g0 rows cols : Nat) (f : Nat → Nat → Int) (i : Nat) (gs : Nat → Nat) (gi j : Nat) : Prop where
  below : Below w.heap.size w wr
  ge : w.heap.size ≤ g0
  top : rowBlk wr g0 ((List.range i).map (fun k => Value.slice (some ⟨gs k, 0, none⟩) cols cols) ++ (.slice (some ⟨gi, 0, none⟩) cols cols :: List.replicate (rows - (i + 1)) (.slice none 0 0)))
  each : ∀ k, k < i → g0 < gs k ∧ intBlk wr (gs k) (rowL f k cols)
  inj : ∀ k k', k < k' → k' < i → gs k < gs k'
  now : intBlk wr gi ((List.range j).map (f i) ++ List.replicate (cols - j) 0)
  last : ∀ k, k < i → gs k < gi
  gt : g0 < gi

theorem RowAt.mono {w wr wr' : World} {g0 rows cols i gi j : Nat} {f : Nat → Nat → Int} {gs : Nat → Nat} (h : RowAt w wr g0 rows cols f i gs gi j) (hb : Below wr.heap.size wr wr') : RowAt w wr' g0 rows cols f i gs gi j where
  below := below_step h.below hb
  ge := h.ge
  top := blk_below h.top hb
  each := fun k hk => ⟨(h.each k hk).1, blk_below (h.each k hk).2 hb⟩
  inj := h.inj
  now := blk_below h.now hb
  last := h.last
  gt := h.gt

theorem RowAt.drew {w wr : World} {g0 rows cols i gi j : Nat} {f : Nat → Nat → Int} {gs : Nat → Nat} (h : RowAt w wr g0 rows cols f i gs gi j) : RowAt w wr.drew g0 rows cols f i gs gi j where
  below := below_drew h.below
  ge := h.ge
  top := h.top
  each := h.each
  inj := h.inj
  now := h.now
  last := h.last
  gt := h.gt
theorem RowAt.cell0 {w wr : World} {g0 rows cols i gi j : Nat} {f : Nat → Nat → Int} {gs : Nat → Nat} (h : RowAt w wr g0 rows cols f i gs gi j) : wr.cell? ⟨g0, i, none⟩ = some (.slice (some ⟨gi, 0, none⟩) cols cols) := by
  rw [blk_cell h.top]
  simp
theorem RowAt.cellj {w wr : World} {g0 rows cols i gi j : Nat} {f : Nat → Nat → Int} {gs : Nat → Nat} (h : RowAt w wr g0 rows cols f i gs gi j) (hj : j < cols) : wr.cell? ⟨gi, j, none⟩ = some (.int .i64 0) := by
  rw [blk_cell h.now]
  obtain ⟨m, hm⟩ : ∃ m, cols - j = m + 1 := ⟨cols - j - 1, by omega⟩
  simp [hm, List.replicate_succ]
theorem RowAt.free {w wr : World} {g0 rows cols i gi j : Nat} {f : Nat → Nat → Int} {gs : Nat → Nat} (h : RowAt w wr g0 rows cols f i gs gi j) (x : Nat) : wr.frozen? ⟨gi, x, none⟩ = false := blk_frozen h.now x
theorem RowAt.put {w wr : World} {g0 rows cols i gi j : Nat} {f : Nat → Nat → Int} {gs : Nat → Nat} (h : RowAt w wr g0 rows cols f i gs gi j) (hj : j < cols) : RowAt w (wr.setCell ⟨gi, j, none⟩ (.int .i64 (f i j))) g0 rows cols f i gs gi (j + 1) where
  below := h.below.setCell (by have := h.gt; have := h.ge; show _ ≤ gi; omega) _
  ge := h.ge
  top := blk_far h.top (by have := h.gt; show g0 ≠ gi; omega) _
  each := fun k hk => ⟨(h.each k hk).1, blk_far (h.each k hk).2 (by have := h.last k hk; show gs k ≠ gi; omega) _⟩
  inj := h.inj
  now := blk_put h.now j _ (by
    obtain ⟨m, hm⟩ : ∃ m, cols - j = m + 1 := ⟨cols - j - 1, by omega⟩
    rw [hm, show cols - (j + 1) = m by omega]
    simp [List.replicate_succ, List.range_succ, List.set_append])
  last := h.last
  gt := h.gt
theorem RowAt.done {w wr : World} {g0 rows cols i gi : Nat} {f : Nat → Nat → Int} {gs : Nat → Nat} (h : RowAt w wr g0 rows cols f i gs gi cols) (hi : i < rows) : TabAt w wr g0 rows cols f (i + 1) (fun k => if k = i then gi else gs k) where
  below := h.below
  ge := h.ge
  top := by
    have := h.top
    have e : (List.range (i + 1)).map (fun k => Value.slice (some ⟨if k = i then gi else gs k, 0, none⟩) cols cols) = (List.range i).map (fun k => Value.slice (some ⟨gs k, 0, none⟩) cols cols) ++ [.slice (some ⟨gi, 0, none⟩) cols cols] := by
      rw [List.range_succ, List.map_append]
      congr 1
      · apply List.map_congr_left
        intro k hk
        rw [if_neg (by have := List.mem_range.1 hk; omega)]
      · simp
    unfold rowBlk
    rw [e, List.append_assoc]
    exact this
  each := fun k hk => by
    by_cases e : k = i
    · subst e
      rw [if_pos rfl]
      refine ⟨h.gt, ?_⟩
      have := h.now
      simpa [rowL] using this
    · rw [if_neg e]
      exact h.each k (by omega)
  inj := fun k k' h1 h2 => by
    rw [if_neg (show ¬ k = i by omega)]
    by_cases e : k' = i
    · rw [if_pos e]; exact h.last k (by omega)
    · rw [if_neg e]; exact h.inj k k' h1 (by omega)
theorem TabAt.mtab {w wr : World} {g0 rows cols : Nat} {f : Nat → Nat → Int} {gs : Nat → Nat} (h : TabAt w wr g0 rows cols f rows gs) : MTab wr w.heap.size g0 gs (tableL f rows cols) where
  ge := h.ge
  top := by
    have := h.top
    rw [Nat.sub_self] at this
    simp only [List.replicate_zero, List.append_nil] at this
    have e : (List.range rows).map (fun k => Value.slice (some ⟨gs k, 0, none⟩) ((tableL f rows cols).getD k []).length ((tableL f rows cols).getD k []).length) = (List.range rows).map (fun k => Value.slice (some ⟨gs k, 0, none⟩) cols cols) := by
      apply List.map_congr_left
      intro k hk
      rw [tableL_get f rows cols k (List.mem_range.1 hk), rowL_length]
    unfold rowBlk
    rw [tableL_length, e]
    exact this
  each := fun k hk => by
    rw [tableL_length] at hk
    obtain ⟨h1, h2⟩ := h.each k hk
    have := h.ge
    rw [tableL_get f rows cols k hk]
    exact ⟨by omega, by omega, h2⟩
  inj := fun k k' hk hk' e => by
    rw [tableL_length] at hk hk'
    rcases Nat.lt_trichotomy k k' with hlt | he | hlt
    · have := h.inj k k' hlt hk'; omega
    · exact he
    · have := h.inj k' k hlt hk; omega
theorem TabAt.init (w : World) (rows cols : Nat) (f : Nat → Nat → Int) : TabAt w (w.alloc (.cells (madeCells #[.slice none 0 0] rows) 31)) w.heap.size rows cols f 0 (fun _ => 0) where
  below := below_alloc (Below.refl _ _) _
  ge := Nat.le_refl _
  top := by
    unfold rowBlk
    rw [madeRows]
    simpa using blk_new w _
  each := fun k hk => by omega
  inj := fun k k' h1 h2 => by omega
theorem TabAt.cell0 {w wr : World} {g0 rows cols i : Nat} {f : Nat → Nat → Int} {gs : Nat → Nat} (h : TabAt w wr g0 rows cols f i gs) (hi : i < rows) : wr.cell? ⟨g0, i, none⟩ = some (.slice none 0 0) := by
  rw [blk_cell h.top]
  obtain ⟨m, hm⟩ : ∃ m, rows - i = m + 1 := ⟨rows - i - 1, by omega⟩
  simp [hm, List.replicate_succ]
theorem TabAt.free {w wr : World} {g0 rows cols i : Nat} {f : Nat → Nat → Int} {gs : Nat → Nat} (h : TabAt w wr g0 rows cols f i gs) (x : Nat) : wr.frozen? ⟨g0, x, none⟩ = false := blk_frozen h.top x
theorem TabAt.start {w wr : World} {g0 rows cols i : Nat} {f : Nat → Nat → Int} {gs : Nat → Nat} (h : TabAt w wr g0 rows cols f i gs) (hi : i < rows) :
    RowAt w ((wr.alloc (.cells (madeCells #[.int .i64 0] cols) 3)).setCell ⟨g0, i, none⟩ (.slice (some ⟨wr.heap.size, 0, none⟩) cols cols)) g0 rows cols f i gs wr.heap.size 0 where
  below := (below_alloc h.below _).setCell h.ge _
  ge := h.ge
  top := blk_put (blk_alloc h.top _) i _ (by
    obtain ⟨m, hm⟩ : ∃ m, rows - i = m + 1 := ⟨rows - i - 1, by omega⟩
    rw [hm, show rows - (i + 1) = m by omega]
    simp [List.replicate_succ, List.set_append])
  each := fun k hk => ⟨(h.each k hk).1, blk_far (blk_alloc (h.each k hk).2 _) (by have := (h.each k hk).1; show gs k ≠ g0; omega) _⟩
  inj := h.inj
  now := blk_far (by have := blk_new wr (.cells (madeCells #[.int .i64 0] cols) 3); rw [madeInts] at this ⊢; simpa using this) (by have := blk_lt h.top; show wr.heap.size ≠ g0; omega) _
  last := fun k hk => blk_lt (h.each k hk).2
  gt := blk_lt h.top

set_option maxHeartbeats 4000000 in
set_option maxRecDepth 100000 in
theorem impl_tableC.callsM (g : Nat) (lb : Array Value) (f : Nat → Nat → Int) (rows cols : Nat) (w : World) (hr : rows ≤ 1000000) (hc : cols ≤ 1000000)
    (eg : ∀ args w, (callFunc g args).run Try.prog w = .ok (.enter g args) w)
    (hf : ∀ (i j : Nat) (W : World), i < rows → j < cols → Below w.heap.size w W → Gives Try.prog g (#[.int .i64 i, .int .i64 j] ++ lb) W (.int .i64 (f i j))) :
    Calls Try.prog 16 #[.int .i64 rows, .int .i64 cols, .func (.func g) #[] lb] w (RetM w (tableL f rows cols)) := by
  have HF := Aside0.mk hf
  clear hf
  have mk1 := fun W : World => run_make_row' (P := Try.prog) 25 31 (.slice none 0 0) 24 Try.underlying25 info_rows rfl .i64 .i64 rows (by omega) (by omega) W
  have mk2 := fun W : World => run_make_row' (P := Try.prog) 31 3 (.int .i64 0) 8 Try.underlying31 info_ints rfl .i64 .i64 cols (by omega) (by omega) W
  have hst : TabAt w (w.alloc (.cells (madeCells #[.slice none 0 0] rows) 31)) w.heap.size rows cols f 0 (fun _ => 0) := TabAt.init w rows cols f
  have HST := Aside0.mk hst
  clear hst
  go_enter Try.func16, Try.ntmps16
  go_wp2
  go_loopg [8, 9, 14] rows (fun gg s8 s9 s14 wr => ∃ (i : Nat) (gs : Nat → Nat), i ≤ rows ∧ rows - i ≤ gg ∧ s14 = .int .i64 i ∧ Aside0 (TabAt w wr w.heap.size rows cols f i gs))
  case atStart => exact ⟨0, fun _ => 0, Nat.zero_le _, Nat.le_refl _, rfl, HST⟩
  case round =>
    obtain ⟨i, gs, hi, hg, rfl, HT⟩ := hrel
    obtain ⟨wo, rfl⟩ : ∃ wo : World, wo = wr := ⟨_, rfl⟩
    by_cases hlt : i < rows
    · have hlz : (i : Int) < (rows : Int) := by omega
      have hx : (wo.alloc (.cells (madeCells #[.int .i64 0] cols) 3)).cell? ⟨w.heap.size, i, none⟩ = some (.slice none 0 0) := (blk_cell (blk_alloc HT.out.top _) i).trans ((blk_cell HT.out.top i).symm.trans (HT.out.cell0 hlt))
      have hfz : (wo.alloc (.cells (madeCells #[.int .i64 0] cols) 3)).frozen? ⟨w.heap.size, i, none⟩ = false := blk_frozen (blk_alloc HT.out.top _) i
      have HR := Aside0.mk (HT.out.start hlt)
      go_wp2
      go_loopg [9, 27] cols (fun gj s9 s27 wr2 => ∃ j : Nat, j ≤ cols ∧ cols - j ≤ gj ∧ s27 = .int .i64 j ∧ Aside0 (RowAt w wr2 w.heap.size rows cols f i gs wo.heap.size j))
      case atStart => exact ⟨0, Nat.zero_le _, Nat.le_refl _, rfl, HR⟩
      case round =>
        clear hx hfz HR
        obtain ⟨j, hj, hgj, rfl, HJ⟩ := hrel
        by_cases hjt : j < cols
        · have hjz : (j : Int) < (cols : Int) := by omega
          have hx0 := HJ.out.cell0
          have hxj := HJ.out.cellj hjt
          have hfj := HJ.out.free j
          have hcall : ∀ W, RowAt w W w.heap.size rows cols f i gs wo.heap.size j → Calls Try.prog g (#[.int .i64 i, .int .i64 j] ++ lb) W fun e W' => e = .returned (.int .i64 (f i j)) ∧ RowAt w W' w.heap.size rows cols f i gs wo.heap.size j := fun W hW => (HF.out i j W hlt hjt hW.below).mono fun e W' h => ⟨h.1, hW.mono h.2⟩
          go_wp2
          go_region_with (go_at_fn g; refine (hcall _ (by repeat (first | exact HJ.out | apply RowAt.drew))).mono ?_; rintro e w' ⟨rfl, HJ1⟩; have hx1 := HJ1.cell0; have hxk := HJ1.cellj hjt; have hfk := HJ1.free j)
          all_goals
            have HP := Aside0.mk (HJ1.put hjt)
            go_wp2
            go_roundg (cols - (j + 1))
            case measure => omega
            case rel => exact ⟨j + 1, by omega, by omega, by go_num, HP⟩
        · have hjz : ¬ (j : Int) < (cols : Int) := by omega
          have hjc : j = cols := by omega
          subst hjc
          have HD := Aside0.mk (HJ.out.done hlt)
          go_wp2
          go_roundg (rows - (i + 1))
          case measure => omega
          case rel => exact ⟨i + 1, _, by omega, by omega, by go_num, HD⟩
    · have hlz : ¬ (i : Int) < (rows : Int) := by omega
      have hir : i = rows := by omega
      subst hir
      go_wp2
      go_ret
      exact ⟨_, gs, by rw [tableL_length]; rfl, HT.out.mtab, HT.out.below⟩
theorem impl_tableC.calls (g : Nat) (lb : Array Value) (f : Nat → Nat → Int) (rows cols : Nat) (w : World) (hr : rows ≤ 1000000) (hc : cols ≤ 1000000)
    (eg : ∀ args w, (callFunc g args).run Try.prog w = .ok (.enter g args) w)
    (hf : ∀ (i j : Nat) (W : World), i < rows → j < cols → Below w.heap.size w W → Gives Try.prog g (#[.int .i64 i, .int .i64 j] ++ lb) W (.int .i64 (f i j))) :
    Calls Try.prog 16 #[.int .i64 rows, .int .i64 cols, .func (.func g) #[] lb] w fun e w' => ∃ v0_ : Value, e = .returned (v0_) ∧ Kd.S (Kd.slice 3 (Kd.int .i64)) 31 w' w.heap.size (fun _ => True) v0_ (tableL f rows cols) ∧ Below w.heap.size w w' := by
  refine (impl_tableC.callsM g lb f rows cols w hr hc eg hf).mono ?_
  rintro e w' ⟨g0, gs, rfl, hm, hb⟩
  have hs := hm.S (by rw [tableL_length]; omega) (fun k hk => by rw [tableL_length] at hk; rw [tableL_get f rows cols k hk, rowL_length]; omega)
  exact ⟨_, rfl, hs, hb⟩

end Go.Proofs.Yteknfnknjebkcaa
