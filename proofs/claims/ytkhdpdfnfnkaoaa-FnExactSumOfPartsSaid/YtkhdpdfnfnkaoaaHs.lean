import Derived.Test.YtkhdpdfnfnkaoaaProg
import Derived.Below
import Derived.Deep.Draws
import Derived.Deep.AppendLies
import Derived.Maps.AppendAt
import Derived.OwnWalk
import Derived.Laws.BytesArg
import Derived.Laws.MakeOwn
import Derived.Laws.OwnMore
import Derived.Deep.OwnRows
import Derived.Tactics
import Derived.Lib.ConvBytes
import Derived.Laws.Slices
import Derived.WalkKit
import Derived.KernelRfl
import Derived.RowKit3
import Derived.Deep.LoopGhost
import Derived.Deep.QuietTactic
import Derived.BigQuiet
import Derived.WideLaws
import Derived.Deep.DeepCutAuto
import Derived.Deep.CutBlock
import Derived.Deep.RegionHeld3
import Derived.Laws.Rows
import Derived.Lib.AppendStr
import Derived.ArgAppend
import Derived.Laws.IdiomCopy
import Derived.OrdersHeld
import Derived.Laws.BitsLemmas
import Derived.RowKit
import Derived.Shelf.Abstract
import Derived.Test.YtkhdpdfnfnkaoaaWMore
import Derived.Test.YtkhdpdfnfnkaoaaWTab
import Derived.Test.YtkhdpdfnfnkaoaaWFour
import Derived.Test.YtkhdpdfnfnkaoaaHm
namespace Go.Proofs.Ytkhdpdfnfnkaoaa
open Go.RowKit Go.Proofs.YtkhdpdfnfnkaoaaW.PrintWords Go.Proofs.YtkhdpdfnfnkaoaaW.PrintLast Go.Proofs.YtkhdpdfnfnkaoaaW.PrintMore
set_option linter.unusedVariables false
set_option linter.unusedSimpArgs false

theorem rd_nat (l : List Int) (i : Nat) (h : i < l.length) : rd l i = l[i] := by simp [rd, List.getD_eq_getElem?_getD, h]
/-- A copy while it is filled: i numbers are there. -/
theorem copy_next (l : List Int) (i : Nat) (h : i < l.length) : ((l.take i ++ List.replicate (l.length - i) 0).map (Value.int .i64)).toArray.setIfInBounds i (.int .i64 (rd l i)) = ((l.take (i + 1) ++ List.replicate (l.length - (i + 1)) 0).map (Value.int .i64)).toArray := by
  obtain ⟨m, hm⟩ : ∃ m, l.length - i = m + 1 := ⟨l.length - i - 1, by omega⟩
  have hi : min i l.length = i := by omega
  rw [hm, show l.length - (i + 1) = m by omega, rd_nat l i h]
  simp [List.replicate_succ, List.set_append, hi]
  have e : List.take (i + 1) (List.map (Value.int .i64) l) = List.take i (List.map (Value.int .i64) l) ++ [Value.int .i64 l[i]] := by
    rw [List.take_succ_eq_append_getElem (by simpa using h), List.getElem_map]
  rw [e, List.append_assoc]
  rfl
theorem copy_cell {wr : World} {g : Nat} {l : List Int} {i : Nat} (h : intBlk wr g (l.take i ++ List.replicate (l.length - i) 0)) (hi : i < l.length) : wr.cell? ⟨g, i, none⟩ = some (.int .i64 0) := by
  obtain ⟨m, hm⟩ : ∃ m, l.length - i = m + 1 := ⟨l.length - i - 1, by omega⟩
  have hi : min i l.length = i := by omega
  rw [blk_cell h, hm]
  simp [List.replicate_succ, hi]

def RetI (w : World) (l : List Int) (e : Ending) (w' : World) : Prop := ∃ g : Nat, e = .returned (.slice (some ⟨g, 0, none⟩) l.length l.length) ∧ intBlk w' g l ∧ w.heap.size ≤ g ∧ Below w.heap.size w w'
set_option maxHeartbeats 2000000 in
theorem laws_toIntS.callsM (A0 : Option Addr) (c0 : Nat) (l0 : List Int) (w : World) (hr0 : Kd.C (Kd.int .i64) w A0 l0.length l0) (hl : l0.length ≤ 17592186044416) :
    Calls Try.prog 11 #[.slice A0 l0.length c0] w (RetI w l0) := by
  have HR0 := Aside0.mk hr0
  clear hr0
  have mk2 := fun W : World => run_make_row' (P := Try.prog) 30 3 (.int .i64 0) 8 Try.underlying30 info_ints rfl .i64 .i64 l0.length (by omega) (by omega) W
  have hs : intBlk (w.alloc (.cells (madeCells #[.int .i64 0] l0.length) 3)) w.heap.size (l0.take 0 ++ List.replicate (l0.length - 0) 0) := by
    unfold intBlk
    rw [madeInts]
    simpa using blk_new w _
  have HS := Aside0.mk hs
  have HB0 := Aside0.mk (below_alloc (Below.refl w.heap.size w) (.cells (madeCells #[.int .i64 0] l0.length) 3))
  clear hs
  go_enter Try.func11, Try.ntmps11
  go_wp2
  go_loopg [4] l0.length (fun gg s4 wr => ∃ i : Nat, i ≤ l0.length ∧ l0.length - i ≤ gg ∧ s4 = .int .i64 i ∧ Aside0 (intBlk wr w.heap.size (l0.take i ++ List.replicate (l0.length - i) 0)) ∧ Aside0 (Below w.heap.size w wr))
  case atStart => exact ⟨0, Nat.zero_le _, Nat.le_refl _, rfl, HS, HB0⟩
  case round =>
    clear HS HB0
    obtain ⟨i, hi, hg, rfl, HI, HB⟩ := hrel
    by_cases hlt : i < l0.length
    · have hlz : (i : Int) < (l0.length : Int) := by omega
      obtain ⟨ad, e0, hx⟩ := Kd.at_int HR0.out i (by omega) hlz
      cases e0
      replace hx := pw_cell_below HB.out hx
      simp only [Int.toNat_natCast] at hx
      have hy := copy_cell HI.out hlt
      have hf : wr.frozen? ⟨w.heap.size, i, none⟩ = false := blk_frozen HI.out i
      have HN : Aside0 (intBlk (wr.setCell ⟨w.heap.size, i, none⟩ (.int .i64 (rd l0 i))) w.heap.size (l0.take (i + 1) ++ List.replicate (l0.length - (i + 1)) 0)) := ⟨blk_put HI.out i _ (copy_next l0 i hlt)⟩
      have HB1 : Aside0 (Below w.heap.size w (wr.setCell ⟨w.heap.size, i, none⟩ (.int .i64 (rd l0 i)))) := ⟨HB.out.setCell (Nat.le_refl _) _⟩
      go_wp2
      go_roundg (l0.length - (i + 1))
      case measure => omega
      case rel => exact ⟨i + 1, by omega, by omega, by go_num, HN, HB1⟩
    · have hlz : ¬ (i : Int) < (l0.length : Int) := by omega
      have hil : i = l0.length := by omega
      subst hil
      go_wp2
      go_ret
      exact ⟨_, rfl, by have := HI.out; simpa using this, Nat.le_refl _, HB.out⟩

def laws_toIntS.f (l0 : List Int) : Option (List Int) := if l0.length ≤ 17592186044416 then some l0 else none
theorem laws_toIntS.calls (A0 : Option Addr) (c0 : Nat) (l0 : List Int) (r : List Int) (w : World) (hr0 : Kd.C (Kd.int .i64) w A0 l0.length l0) (hc0 : l0.length ≤ c0) (h : laws_toIntS.f l0 = some r) :
    Calls Try.prog 11 #[.slice A0 l0.length c0] w fun e w' => ∃ v0_ : Value, e = .returned (v0_) ∧ Kd.R (Kd.int .i64) 3 w' w.heap.size (fun _ => True) v0_ r ∧ Below w.heap.size w w' := by
  unfold laws_toIntS.f at h
  by_cases hl : l0.length ≤ 17592186044416
  · rw [if_pos hl] at h
    obtain rfl := Option.some.inj h
    refine (laws_toIntS.callsM A0 c0 l0 w hr0 hl).mono ?_
    rintro e w' ⟨g, rfl, hb, hg, hw⟩
    exact ⟨_, rfl, intBlk_R hb hg trivial (by omega), hw⟩
  · rw [if_neg hl] at h
    cases h

/-- A table of copies while it is filled: i rows are there. -/
structure CopyAt (w wr : World) (g0 : Nat) (T : List (List Int)) (i : Nat) (gs : Nat → Nat) : Prop where
  below : Below w.heap.size w wr
  ge : w.heap.size ≤ g0
  top : rowBlk wr g0 ((List.range i).map (fun k => Value.slice (some ⟨gs k, 0, none⟩) (T.getD k []).length (T.getD k []).length) ++ List.replicate (T.length - i) (.slice none 0 0))
  each : ∀ k, k < i → g0 < gs k ∧ intBlk wr (gs k) (T.getD k [])
  inj : ∀ k k', k < k' → k' < i → gs k < gs k'
theorem CopyAt.init (w : World) (T : List (List Int)) : CopyAt w (w.alloc (.cells (madeCells #[.slice none 0 0] T.length) 30)) w.heap.size T 0 (fun _ => 0) where
  below := below_alloc (Below.refl _ _) _
  ge := Nat.le_refl _
  top := by
    unfold rowBlk
    rw [madeRows]
    simpa using blk_new w _
  each := fun k hk => by omega
  inj := fun k k' h1 h2 => by omega
theorem CopyAt.drew {w wr : World} {g0 i : Nat} {T : List (List Int)} {gs : Nat → Nat} (h : CopyAt w wr g0 T i gs) : CopyAt w wr.drew g0 T i gs where
  below := below_drew h.below
  ge := h.ge
  top := h.top
  each := h.each
  inj := h.inj
theorem CopyAt.mono {w wr wr' : World} {g0 i : Nat} {T : List (List Int)} {gs : Nat → Nat} (h : CopyAt w wr g0 T i gs) (hb : Below wr.heap.size wr wr') : CopyAt w wr' g0 T i gs where
  below := below_step h.below hb
  ge := h.ge
  top := blk_below h.top hb
  each := fun k hk => ⟨(h.each k hk).1, blk_below (h.each k hk).2 hb⟩
  inj := h.inj
theorem CopyAt.cell {w wr : World} {g0 i : Nat} {T : List (List Int)} {gs : Nat → Nat} (h : CopyAt w wr g0 T i gs) (hi : i < T.length) : wr.cell? ⟨g0, i, none⟩ = some (.slice none 0 0) := by
  rw [blk_cell h.top]
  obtain ⟨m, hm⟩ : ∃ m, T.length - i = m + 1 := ⟨T.length - i - 1, by omega⟩
  simp [hm, List.replicate_succ]
theorem CopyAt.free {w wr : World} {g0 i : Nat} {T : List (List Int)} {gs : Nat → Nat} (h : CopyAt w wr g0 T i gs) (x : Nat) : wr.frozen? ⟨g0, x, none⟩ = false := blk_frozen h.top x
theorem CopyAt.next {w wr : World} {g0 i gi : Nat} {T : List (List Int)} {gs : Nat → Nat} (h : CopyAt w wr g0 T i gs) (hi : i < T.length) (hr : intBlk wr gi (T.getD i [])) (hgt : g0 < gi) (hnew : ∀ k, k < i → gs k < gi) :
    CopyAt w (wr.setCell ⟨g0, i, none⟩ (.slice (some ⟨gi, 0, none⟩) (T.getD i []).length (T.getD i []).length)) g0 T (i + 1) (fun k => if k = i then gi else gs k) where
  below := h.below.setCell h.ge _
  ge := h.ge
  top := by
    have e : (List.range (i + 1)).map (fun k => Value.slice (some ⟨if k = i then gi else gs k, 0, none⟩) (T.getD k []).length (T.getD k []).length) = (List.range i).map (fun k => Value.slice (some ⟨gs k, 0, none⟩) (T.getD k []).length (T.getD k []).length) ++ [.slice (some ⟨gi, 0, none⟩) (T.getD i []).length (T.getD i []).length] := by
      rw [List.range_succ, List.map_append]
      congr 1
      · apply List.map_congr_left
        intro k hk
        rw [if_neg (by have := List.mem_range.1 hk; omega)]
      · simp
    unfold rowBlk
    rw [e]
    refine blk_put h.top i _ ?_
    obtain ⟨m, hm⟩ : ∃ m, T.length - i = m + 1 := ⟨T.length - i - 1, by omega⟩
    rw [hm, show T.length - (i + 1) = m by omega]
    simp [List.replicate_succ, List.set_append]
  each := fun k hk => by
    by_cases e : k = i
    · subst e
      rw [if_pos rfl]
      exact ⟨hgt, blk_far hr (by show gi ≠ g0; omega) _⟩
    · rw [if_neg e]
      obtain ⟨h1, h2⟩ := h.each k (by omega)
      exact ⟨h1, blk_far h2 (by show gs k ≠ g0; omega) _⟩
  inj := fun k k' h1 h2 => by
    rw [if_neg (show ¬ k = i by omega)]
    by_cases e : k' = i
    · rw [if_pos e]; exact hnew k (by omega)
    · rw [if_neg e]; exact h.inj k k' h1 (by omega)
theorem CopyAt.mtab {w wr : World} {g0 : Nat} {T : List (List Int)} {gs : Nat → Nat} (h : CopyAt w wr g0 T T.length gs) : MTab wr w.heap.size g0 gs T where
  ge := h.ge
  top := by
    have := h.top
    rw [Nat.sub_self] at this
    simpa using this
  each := fun k hk => by
    obtain ⟨h1, h2⟩ := h.each k hk
    have := h.ge
    exact ⟨by omega, by omega, h2⟩
  inj := fun k k' hk hk' e => by
    rcases Nat.lt_trichotomy k k' with hlt | he | hlt
    · have := h.inj k k' hlt hk'; omega
    · exact he
    · have := h.inj k' k hlt hk; omega

theorem rowsAt {w : World} {A : Option Addr} {n : Nat} {xs : List (List Int)} (h : Kd.C (Kd.slice 3 (Kd.int .i64)) w A n xs) (i : Nat) (h1 : i < n) : ∃ ad A0 c0, A = some ad ∧ w.cell? (ad.add i) = some (.slice A0 (xs.getD i []).length c0) ∧ (xs.getD i []).length ≤ c0 ∧ (Kd.int .i64).C w A0 (xs.getD i []).length (xs.getD i []) := by
  obtain ⟨ad, c, e, _, hK, hc0⟩ := Kd.C_get h ([] : List Int) (i : Int) (by omega) (by omega)
  obtain ⟨A0, c0, rfl, l0, g0⟩ := hK
  have hq := hc0 0 _ rfl
  simp only [Int.toNat_natCast] at hq l0 g0
  exact ⟨ad, A0, c0, e, by have : (Kd.slice 3 (Kd.int .i64)).sz = 1 := rfl; rw [this, Nat.mul_one, Nat.add_zero] at hq; exact hq, l0, g0⟩

def rowsOk (T : List (List Int)) : Prop := T.length ≤ 11728124029610 ∧ ∀ r ∈ T, r.length ≤ 17592186044416
theorem rowsOk.at_ {T : List (List Int)} (h : rowsOk T) (i : Nat) : (T.getD i []).length ≤ 17592186044416 := by
  rw [List.getD_eq_getElem?_getD]
  rcases Nat.lt_or_ge i T.length with hi | hi
  · rw [List.getElem?_eq_getElem hi]; exact h.2 _ (List.getElem_mem hi)
  · rw [List.getElem?_eq_none hi]; simp
set_option maxHeartbeats 4000000 in
theorem laws_toIntSS.callsM (A0 : Option Addr) (c0 : Nat) (l0 : List (List Int)) (w : World) (hr0 : Kd.C (Kd.slice 3 (Kd.int .i64)) w A0 l0.length l0) (hl : rowsOk l0) :
    Calls Try.prog 6 #[.slice A0 l0.length c0] w (RetM w l0) := by
  have HR0 := Aside0.mk hr0
  have HL := Aside0.mk hl
  have hlen := hl.1
  clear hr0 hl
  have mk1 := fun W : World => run_make_row' (P := Try.prog) 22 30 (.slice none 0 0) 24 Try.underlying22 info_rows rfl .i64 .i64 l0.length (by omega) (by omega) W
  have HS := Aside0.mk (CopyAt.init w l0)
  go_enter Try.func6, Try.ntmps6
  go_wp2
  go_loopg [4] l0.length (fun gg s4 wr => ∃ (i : Nat) (gs : Nat → Nat), i ≤ l0.length ∧ l0.length - i ≤ gg ∧ s4 = .int .i64 i ∧ Aside0 (CopyAt w wr w.heap.size l0 i gs))
  case atStart => exact ⟨0, fun _ => 0, Nat.zero_le _, Nat.le_refl _, rfl, HS⟩
  case round =>
    clear HS
    obtain ⟨i, gs, hi, hg, rfl, HC⟩ := hrel
    by_cases hlt : i < l0.length
    · have hlz : (i : Int) < (l0.length : Int) := by omega
      obtain ⟨ad, A1, c1, e0, hx, hc1, hrow⟩ := rowsAt HR0.out i hlt
      cases e0
      replace hx := pw_cell_below HC.out.below hx
      have hcall := laws_toIntS.callsM A1 c1 (l0.getD i []) wr (Kd.C_below hrow HC.out.below) (HL.out.at_ i)
      obtain ⟨row, hrw⟩ : ∃ r, r = l0.getD i [] := ⟨_, rfl⟩
      rw [← hrw] at hx hcall
      have HROW := Aside0.mk hrw
      clear hrw hrow hc1
      go_wp2_with (go_at_call 11; refine hcall.mono ?_; rintro e w' ⟨gi, rfl, hblk, hge, hb⟩; have HC1 := HC.out.mono hb; have hy := HC1.cell hlt; have hf := HC1.free i; have HN := Aside0.mk (HC1.next hlt (by rw [← HROW.out]; exact hblk) (Nat.lt_of_lt_of_le (blk_lt HC.out.top) hge) (fun k hk => Nat.lt_of_lt_of_le (blk_lt (HC.out.each k hk).2) hge)); rw [← HROW.out] at HN; clear hblk hge hb HC1)
      go_roundg (l0.length - (i + 1))
      case measure => omega
      case rel => exact ⟨i + 1, _, by omega, by omega, by go_num, HN⟩
    · have hlz : ¬ (i : Int) < (l0.length : Int) := by omega
      have hil : i = l0.length := by omega
      subst hil
      go_wp2
      go_ret
      exact ⟨_, gs, rfl, HC.out.mtab, HC.out.below⟩


def laws_toIntSS.f (l0 : List (List Int)) : Option (List (List Int)) := if l0.length ≤ 11728124029610 ∧ (l0.all fun r => decide (r.length ≤ 17592186044416)) = true then some l0 else none
theorem laws_toIntSS.calls (A0 : Option Addr) (c0 : Nat) (l0 : List (List Int)) (r : List (List Int)) (w : World) (hr0 : Kd.C (Kd.slice 3 (Kd.int .i64)) w A0 l0.length l0) (hc0 : l0.length ≤ c0) (h : laws_toIntSS.f l0 = some r) :
    Calls Try.prog 6 #[.slice A0 l0.length c0] w fun e w' => ∃ v0_ : Value, e = .returned (v0_) ∧ Kd.S (Kd.slice 3 (Kd.int .i64)) 30 w' w.heap.size (fun _ => True) v0_ r ∧ Below w.heap.size w w' := by
  unfold laws_toIntSS.f at h
  by_cases hl : l0.length ≤ 11728124029610 ∧ (l0.all fun r => decide (r.length ≤ 17592186044416)) = true
  · rw [if_pos hl] at h
    obtain rfl := Option.some.inj h
    have hok : rowsOk l0 := ⟨hl.1, fun r hr => of_decide_eq_true (List.all_eq_true.1 hl.2 r hr)⟩
    refine (laws_toIntSS.callsM A0 c0 l0 w hr0 hok).mono ?_
    rintro e w' ⟨g0, gs, rfl, hm, hw⟩
    exact ⟨_, rfl, hm.S (by have := hl.1; omega) (fun k _ => by have := hok.at_ k; omega), hw⟩
  · rw [if_neg hl] at h
    cases h

end Go.Proofs.Ytkhdpdfnfnkaoaa
