/- Texts of one chain, in build order. -/
import Derived.Test.YtdcdkckpmkfjdaaProg
import Derived.Below
import Derived.Deep.Draws
import Derived.Deep.AppendLies
import Derived.Maps.AppendAt
import Derived.OwnWalk
import Derived.Laws.BytesArg
import Derived.Laws.MakeOwn
import Derived.Laws.OwnMore
import Derived.Deep.OwnRows
import Derived.Tactics
import Derived.Lib.ConvBytes
import Derived.Laws.Slices
import Derived.WalkKit
import Derived.KernelRfl
import Derived.RowKit3
import Derived.Deep.LoopGhost
import Derived.Deep.QuietTactic
import Derived.BigQuiet
import Derived.WideLaws
import Derived.Deep.DeepCutAuto
import Derived.Deep.CutBlock
import Derived.Deep.RegionHeld3
import Derived.Laws.Rows
import Derived.Lib.AppendStr
import Derived.ArgAppend
import Derived.Laws.IdiomCopy
import Derived.OrdersHeld
import Derived.Laws.BitsLemmas
import Derived.RowKit
import Derived.Shelf.Abstract
import Derived.Test.YtdcdkckpmkfjdaaWMore
import Derived.Test.YtdcdkckpmkfjdaaWTab
import Derived.Test.YtdcdkckpmkfjdaaWFour
import Derived.WalkSpells
import Derived.Test.YtdcdkckpmkfjdaaWKept
import Derived.Test.YtdcdkckpmkfjdaaWApart
import Derived.Lib.SliceRun
import Derived.Test.YtdcdkckpmkfjdaaWShare
import Derived.SizedLaws
import Derived.ChangeSlices
import Derived.Deep.Matrix
import Derived.Test.YtdcdkckpmkfjdaaWWords
import Derived.Test.YtdcdkckpmkfjdaaWLast
import Derived.Test.YtdcdkckpmkfjdaaWQPut
import Derived.Test.YtdcdkckpmkfjdaaWArr
import Derived.Test.YtdcdkckpmkfjdaaWZeros
import Derived.Test.YtdcdkckpmkfjdaaWFoot
import Derived.Test.YtdcdkckpmkfjdaaWN
import Derived.Test.YtdcdkckpmkfjdaaWFootNe
import Derived.Test.YtdcdkckpmkfjdaaWAt
import Derived.Test.YtdcdkckpmkfjdaaWEqStruct
import Derived.Test.YtdcdkckpmkfjdaaWRepsOne
import Derived.Test.YtdcdkckpmkfjdaaWInv
import Derived.Test.YtdcdkckpmkfjdaaWInvWords
import Derived.Test.YtdcdkckpmkfjdaaWGuard
import Derived.Test.YtdcdkckpmkfjdaaWNEv
namespace Go.Proofs.Ytdcdkckpmkfjdaa
open Go.RowKit Go.Proofs.YtdcdkckpmkfjdaaW.PrintWords Go.Proofs.YtdcdkckpmkfjdaaW.PrintLast Go.Proofs.YtdcdkckpmkfjdaaW.PrintMore
set_option linter.unusedVariables false
set_option linter.unusedSimpArgs false

/-- The place of the first element for which p holds, from k on; -1 if there is none. -/
def idxFrom {α : Type} (p : α → Bool) : Nat → List α → Int
 | _, [] => -1
 | k, x :: r => if p x then (k : Int) else idxFrom p (k + 1) r
def idxOf {α : Type} (p : α → Bool) (l : List α) : Int := idxFrom p 0 l
theorem idxFrom_hit {α : Type} (p : α → Bool) (l : List α) : ∀ (m kk : Nat) (h : kk < l.length), (∀ j (hj : j < kk), p (l[j]'(by omega)) = false) → p l[kk] = true → idxFrom p m l = ((m + kk : Nat) : Int) := by
 induction l with
 | nil => intro m kk h; exact absurd h (by simp)
 | cons x r ih =>
  intro m kk h hn hy
  cases kk with
  | zero => simp only [List.getElem_cons_zero] at hy; simp [idxFrom, hy]
  | succ kk =>
   have h0 := hn 0 (by omega)
   simp only [List.getElem_cons_zero] at h0
   simp only [List.getElem_cons_succ] at hy
   have := ih (m + 1) kk (by simpa using h) (fun j hj => by have := hn (j + 1) (by omega); simpa using this) hy
   rw [idxFrom, if_neg (by simp [h0]), this]
   omega
theorem idxFrom_miss {α : Type} (p : α → Bool) (l : List α) : ∀ (m : Nat), (∀ j (hj : j < l.length), p l[j] = false) → idxFrom p m l = -1 := by
 induction l with
 | nil => intro m h; rfl
 | cons x r ih =>
  intro m hn
  have h0 := hn 0 (by simp)
  simp only [List.getElem_cons_zero] at h0
  rw [idxFrom, if_neg (by simp [h0])]
  exact ih (m + 1) (fun j hj => by have := hn (j + 1) (by simpa using hj); simpa using this)
/-- A call of g in a later world answers a bool, and turns nothing. -/
def Gives (P : Program) (g : Nat) (args : Array Value) (W : World) (res : Value) : Prop :=
 Calls P g args W fun e W' => e = .returned res ∧ Below W.heap.size W W'

end Go.Proofs.Ytdcdkckpmkfjdaa

namespace Go.Proofs.Ytdcdkckpmkfjdaa
open Go.RowKit Go.Proofs.YtdcdkckpmkfjdaaW.PrintWords Go.Proofs.YtdcdkckpmkfjdaaW.PrintLast Go.Proofs.YtdcdkckpmkfjdaaW.PrintMore
set_option linter.unusedVariables false
set_option linter.unusedSimpArgs false

def inB (n lo hi : Int) : Bool := decide (lo ≤ n) && decide (n ≤ hi)
theorem inB_iff (n lo hi : Int) : inB n lo hi = true ↔ lo ≤ n ∧ n ≤ hi := by simp [inB]

def impl_within.f (a0 a1 a2 : Int) : Option Bool := some (inB a0 a1 a2)
theorem impl_within.calls (a0 : Int) (a1 : Int) (a2 : Int) (r : Bool) (w : World) (h : impl_within.f a0 a1 a2 = some r) :
  Calls Try.prog 93 #[.int .i64 a0, .int .i64 a1, .int .i64 a2] w fun e w' => e = .returned (.bool r) ∧ Drawn0 w w' := by
 obtain rfl := Option.some.inj h
 clear h
 by_cases h1 : a1 ≤ a0
 ·have d1 : decide (a1 ≤ a0) = true := decide_eq_true h1
  by_cases h2 : a0 ≤ a2
  ·have d2 : decide (a0 ≤ a2) = true := decide_eq_true h2
   have hr : inB a0 a1 a2 = true := by simp [inB, h1, h2]
   rw [hr]; clear hr
   go_enter Try.func93, Try.ntmps93
   go_wp2
   go_ret
   exact ⟨by first | rfl | (simp; done) | (simp [*]; done), Drawn0.refl _⟩
  ·have d2 : decide (a0 ≤ a2) = false := decide_eq_false h2
   have hr : inB a0 a1 a2 = false := by simp [inB, h1]; omega
   rw [hr]; clear hr
   go_enter Try.func93, Try.ntmps93
   go_wp2
   go_ret
   exact ⟨by first | rfl | (simp; done) | (simp [*]; done), Drawn0.refl _⟩
 ·have d1 : decide (a1 ≤ a0) = false := decide_eq_false h1
  have hr : inB a0 a1 a2 = false := by simp [inB]; omega
  rw [hr]; clear hr
  go_enter Try.func93, Try.ntmps93
  go_wp2
  go_ret
  exact ⟨by first | rfl | (simp; done) | (simp [*]; done), Drawn0.refl _⟩

theorem areWithin_1.calls (x lo hi : Int) (b1 b2 : Nat) (W : World) (h1 : W.cell? ⟨b1, 0, none⟩ = some (.int .i64 lo)) (h2 : W.cell? ⟨b2, 0, none⟩ = some (.int .i64 hi)) :
  Gives Try.prog 145 #[.int .i64 x, .pointer (some ⟨b1, 0, none⟩), .pointer (some ⟨b2, 0, none⟩)] W (.bool (!(inB x lo hi))) := by
 unfold Gives
 go_enter Try.func145, Try.ntmps145
 go_wp2_with (go_at_call 93; refine (impl_within.calls x lo hi _ _ rfl).mono ?_; rintro e w' ⟨rfl, hd⟩; have hb := hd.below; clear hd)
 go_ret
 exact ⟨rfl, hb⟩

end Go.Proofs.Ytdcdkckpmkfjdaa

namespace Go.Proofs.Ytdcdkckpmkfjdaa
open Go.RowKit Go.Proofs.YtdcdkckpmkfjdaaW.PrintWords Go.Proofs.YtdcdkckpmkfjdaaW.PrintLast Go.Proofs.YtdcdkckpmkfjdaaW.PrintMore
set_option linter.unusedVariables false
set_option linter.unusedSimpArgs false

theorem info_int : (Try.prog.info? 3).map (fun i => (i.zero, i.size, i.bytes)) = some (some (.int .i64 0), 1, 8) := by kernel_rfl

def slices_Clone_int_int.f (l0 : List Int) : Option (List Int) := if l0.length < 17592186044416 then some l0 else none
set_option maxHeartbeats 2000000 in
theorem slices_Clone_int_int.calls (A0 : Option Addr) (c0 : Nat) (l0 : List Int) (r : List Int) (w : World) (hr0 : Kd.C (Kd.int .i64) w A0 l0.length l0) (hc0 : l0.length ≤ c0) (h : slices_Clone_int_int.f l0 = some r) :
  Calls Try.prog 132 #[.slice A0 l0.length c0] w fun e w' => ∃ v0_ : Value, e = .returned (v0_) ∧ Kd.R (Kd.int .i64) 3 w' w.heap.size (fun _ => True) v0_ r ∧ Below w.heap.size w w' := by
 unfold slices_Clone_int_int.f at h
 by_cases hlim : l0.length < 17592186044416
 ·rw [if_pos hlim] at h
  obtain rfl := Option.some.inj h
  clear h
  have LM := Aside0.mk hlim
  clear hlim
  have HR0 := Aside0.mk hr0
  clear hr0 hc0
  have hnil := fun (W : World) (n c n' c' : Nat) => Lib.run_eql_slice_nil (P := Try.prog) W 22 3 A0 n c n' c' Try.underlying22
  cases A0 with
  | none =>
   have hl : l0.length = 0 := by
    rcases Nat.eq_zero_or_pos l0.length with h | h
    ·exact h
    ·obtain ⟨ad, e, _⟩ := HR0.out.2.2 h
     cases e
   have hl2 : l0 = [] := List.eq_nil_of_length_eq_zero hl
   subst hl2
   clear hl
   go_enter Try.func132, Try.ntmps132
   go_wp2
   go_ret
   exact ⟨_, rfl, Kd.R_nil _ _ _ _ _, Below.refl _ _⟩
  | some a =>
   have HB := Aside0.mk (Below.refl w.heap.size w)
   go_enter Try.func132, Try.ntmps132
   go_wp2_with (first | ((with_reducible refine gate_dst (N := 5) rfl ?_); refine Kd.R_lit (Kd.int .i64) _ 3 ?hg (N := 5) ?hd (xs := ([] : List Int)) (inner := []) (ok := fun _ => True) (okp := fun _ => True) ?hr ?hp (fun _ hk => hk) trivial (Below.refl _ _) (Nat.le_refl _) (by simp) ?_; (case hd => rfl); (case hg => rfl); (case hr => first | (go_simp; done) | (go_simp; rfl)); (case hp => exact (Reps.none _ _)); intro v102 w3 ho4 hb hg_ hnew_; clear hg_ hnew_; have HO := Aside0.mk (Kd.R_lower ho4 (below_size HB.out)); have HB1 := Aside0.mk (below_step HB.out hb); clear hb ho4 HB) | ((with_reducible refine gate_builtin (b := .append) (xs := #[.tmp 5, .tmp 6]) rfl ?_); at_builtin; refine Kd.R_append_rows (Kd.int .i64) (w0 := w) w.heap.size rfl (.tmp 5) (.tmp 6) 22 3 (.int .i64 0) 8 rfl Try.underlying22 info_int rfl (by decide) (by omega) v102 [] l0 _ _ _ (fun _ => True) (fun _ => False) rfl rfl HO.out (Kd.C_below HR0.out HB1.out) (fun _ _ h => h) (fun _ h => h.elim) (fun _ _ => trivial) HB1.out (below_size HB1.out) (by have := LM.out; simp; omega) ?_; intro v105 w5 ho hb hg hat; have HO2 := Aside0.mk ho; have HB2 := Aside0.mk hb; clear ho hb hg hat))
   go_ret
   exact ⟨_, rfl, HO2.out, HB2.out⟩
 ·rw [if_neg hlim] at h
  cases h

end Go.Proofs.Ytdcdkckpmkfjdaa

namespace Go.Proofs.Ytdcdkckpmkfjdaa
open Go.RowKit Go.Proofs.YtdcdkckpmkfjdaaW.PrintWords Go.Proofs.YtdcdkckpmkfjdaaW.PrintLast Go.Proofs.YtdcdkckpmkfjdaaW.PrintMore
set_option linter.unusedVariables false
set_option linter.unusedSimpArgs false

/-- A block of whole numbers. -/
def intBlk (W : World) (g : Nat) (l : List Int) : Prop := W.heap[g]? = some (.cells (l.map (Value.int .i64)).toArray 3 (0, 0))
/-- A block of rows, each in a block of its own. -/
def rowBlk (W : World) (g : Nat) (cs : List Value) : Prop := W.heap[g]? = some (.cells cs.toArray 22 (0, 0))

theorem intBlk_R {W : World} {base g : Nat} {ok : Nat → Prop} {l : List Int} (h : intBlk W g l) (hb : base ≤ g) (hok : ok g) (hl : l.length ≤ 1000000000000000) :
  Kd.R (Kd.int .i64) 3 W base ok (.slice (some ⟨g, 0, none⟩) l.length l.length) l := by
 refine ⟨fun k hk => ?_, l.map (Value.int .i64), ⟨by simp [Kd.int, Kd.scalar], .inr ⟨g, l.length, _, rfl, hb, h, Nat.le_refl _, by unfold maxLen; omega, by simp [Kd.int, Kd.scalar], by simp [Kd.int, Kd.scalar]; exact List.take_of_length_le (by simp)⟩⟩, ?_⟩
 ·have : g = k := by simpa [Value.ownBlock] using hk
  exact this ▸ hok
 ·refine ⟨by simp [Kd.int, Kd.scalar], fun j p hj => ?_⟩
  have hj2 : j < l.length := (List.getElem?_eq_some_iff.1 hj).1
  have hp : l[j] = p := (List.getElem?_eq_some_iff.1 hj).2
  show ((l.map (Value.int .i64)).drop (j * 1)).take 1 = [Value.int .i64 p]
  rw [Nat.mul_one, List.drop_eq_getElem_cons (by simpa using hj2)]
  simp [hp]

theorem rows_S {W : World} {base g0 : Nat} {gs : Nat → Nat} {xss : List (List Int)} (hn : xss.length ≤ 1000000000000000) (hb : base ≤ g0)
  (h0 : rowBlk W g0 ((List.range xss.length).map fun k => Value.slice (some ⟨gs k, 0, none⟩) (xss.getD k []).length (xss.getD k []).length))
  (hk : ∀ k, k < xss.length → base ≤ gs k ∧ gs k ≠ g0 ∧ (xss.getD k []).length ≤ 1000000000000000 ∧ intBlk W (gs k) (xss.getD k []))
  (hinj : ∀ k k', k < xss.length → k' < xss.length → gs k = gs k' → k = k') :
  Kd.S (Kd.slice 3 (Kd.int .i64)) 22 W base (fun _ => True) (.slice (some ⟨g0, 0, none⟩) xss.length xss.length) xss := by
 refine ⟨fun b => ((List.range xss.length).find? (fun k => gs k == b)).getD 0, fun k _ => trivial, (List.range xss.length).map fun k => Value.slice (some ⟨gs k, 0, none⟩) (xss.getD k []).length (xss.getD k []).length, ?_, ?_⟩
 ·rw [List.length_zipIdx]
  exact ⟨by simp [Kd.tag, Kd.slice], .inr ⟨g0, xss.length, _, rfl, hb, h0, Nat.le_refl _, by unfold maxLen; omega, by simp [Kd.tag, Kd.slice], by simp [Kd.tag, Kd.slice]; exact List.take_of_length_le (by simp)⟩⟩
 ·refine ⟨by simp [Kd.tag, Kd.slice], fun j p hj => ?_⟩
  have hj2 : j < xss.length := by have := (List.getElem?_eq_some_iff.1 hj).1; simpa using this
  have hp : p = (xss[j], j) := by
   have := (List.getElem?_eq_some_iff.1 hj).2
   rw [← this]; simp
  subst hp
  obtain ⟨h1, h2, h3, h4⟩ := hk j hj2
  have hg : xss.getD j [] = xss[j] := by simp [List.getD_eq_getElem?_getD, hj2]
  rw [hg] at h3 h4
  have hf : ((List.range xss.length).find? (fun k => gs k == gs j)).getD 0 = j := by
   cases hq : (List.range xss.length).find? (fun k => gs k == gs j) with
   | none =>
    have := List.find?_eq_none.1 hq j (by simpa using hj2)
    simp at this
   | some k =>
    have hm := List.mem_of_find?_eq_some hq
    have hs := List.find?_some hq
    exact hinj k j (by simpa using hm) hj2 (by simpa using hs)
  refine ⟨Value.slice (some ⟨gs j, 0, none⟩) xss[j].length xss[j].length, ?_, intBlk_R h4 h1 ⟨⟨trivial, by simp [Value.ownBlock, h2]⟩, hf⟩ h3⟩
  show (((List.range xss.length).map fun k => Value.slice (some ⟨gs k, 0, none⟩) (xss.getD k []).length (xss.getD k []).length).drop (j * 1)).take 1 = _
  rw [Nat.mul_one, List.drop_eq_getElem_cons (by simpa using hj2)]
  simp [hj2]

/-- A table of whole numbers of the call's own: each row in a block of its own. -/
structure MTab (W : World) (B g0 : Nat) (gs : Nat → Nat) (T : List (List Int)) : Prop where
 ge : B ≤ g0
 top : rowBlk W g0 ((List.range T.length).map fun k => Value.slice (some ⟨gs k, 0, none⟩) (T.getD k []).length (T.getD k []).length)
 each : ∀ k, k < T.length → B ≤ gs k ∧ gs k ≠ g0 ∧ intBlk W (gs k) (T.getD k [])
 inj : ∀ k k', k < T.length → k' < T.length → gs k = gs k' → k = k'
theorem MTab.below {W W' : World} {B g0 : Nat} {gs : Nat → Nat} {T : List (List Int)} (h : MTab W B g0 gs T) (hb : Below W.heap.size W W') : MTab W' B g0 gs T where
 ge := h.ge
 top := blk_below h.top hb
 each := fun k hk => ⟨(h.each k hk).1, (h.each k hk).2.1, blk_below (h.each k hk).2.2 hb⟩
 inj := h.inj
theorem MTab.drew {W : World} {B g0 : Nat} {gs : Nat → Nat} {T : List (List Int)} (h : MTab W B g0 gs T) : MTab W.drew B g0 gs T := h.below (below_drew (Below.refl _ _))
theorem MTab.drewN {W : World} {B g0 : Nat} {gs : Nat → Nat} {T : List (List Int)} (h : MTab W B g0 gs T) (n : Nat) : MTab (W.drewN n) B g0 gs T := h.below (pw_below_drewN (Below.refl _ _) n)
theorem MTab.alloc {W : World} {B g0 : Nat} {gs : Nat → Nat} {T : List (List Int)} (h : MTab W B g0 gs T) (o : Obj) : MTab (W.alloc o) B g0 gs T := h.below (below_alloc (Below.refl _ _) _)
theorem MTab.S {W : World} {B g0 : Nat} {gs : Nat → Nat} {T : List (List Int)} (h : MTab W B g0 gs T) (hn : T.length ≤ 1000000000000000) (hl : ∀ k, k < T.length → (T.getD k []).length ≤ 1000000000000000) :
  Kd.S (Kd.slice 3 (Kd.int .i64)) 22 W B (fun _ => True) (.slice (some ⟨g0, 0, none⟩) T.length T.length) T :=
 rows_S hn h.ge h.top (fun k hk => ⟨(h.each k hk).1, (h.each k hk).2.1, hl k hk, (h.each k hk).2.2⟩) h.inj
theorem MTab.cell {W : World} {B g0 : Nat} {gs : Nat → Nat} {T : List (List Int)} (h : MTab W B g0 gs T) (i j : Nat) (hi : i < T.length) (hj : j < (T.getD i []).length) : W.cell? ⟨gs i, j, none⟩ = some (.int .i64 ((T.getD i []).getD j 0)) := by
 rw [blk_cell (h.each i hi).2.2]
 simp only [List.getElem?_toArray, List.getElem?_map, List.getD_eq_getElem?_getD (l := T.getD i []), List.getElem?_eq_getElem hj, Option.map_some, Option.getD_some]
theorem MTab.free {W : World} {B g0 : Nat} {gs : Nat → Nat} {T : List (List Int)} (h : MTab W B g0 gs T) (i j : Nat) (hi : i < T.length) : W.frozen? ⟨gs i, j, none⟩ = false := blk_frozen (h.each i hi).2.2 j
/-- T with v at (i, j). -/
def putT (T : List (List Int)) (i j : Nat) (v : Int) : List (List Int) := T.set i ((T.getD i []).set j v)
theorem putT_length (T : List (List Int)) (i j : Nat) (v : Int) : (putT T i j v).length = T.length := by simp [putT]
theorem putT_row (T : List (List Int)) (i j : Nat) (v : Int) (k : Nat) : ((putT T i j v).getD k []).length = (T.getD k []).length := by
 unfold putT
 simp only [List.getD_eq_getElem?_getD, List.getElem?_set]
 by_cases h : i = k
 ·subst h
  by_cases h2 : i < T.length
  ·simp [h2]
  ·simp [h2]
 ·simp [h]
theorem MTab.put {W : World} {B g0 : Nat} {gs : Nat → Nat} {T : List (List Int)} (h : MTab W B g0 gs T) (i j : Nat) (hi : i < T.length) (v : Int) : MTab (W.setCell ⟨gs i, j, none⟩ (.int .i64 v)) B g0 gs (putT T i j v) where
 ge := h.ge
 top := by
  have e : (List.range (putT T i j v).length).map (fun k => Value.slice (some ⟨gs k, 0, none⟩) ((putT T i j v).getD k []).length ((putT T i j v).getD k []).length) = (List.range T.length).map fun k => Value.slice (some ⟨gs k, 0, none⟩) (T.getD k []).length (T.getD k []).length := by
   rw [putT_length]
   apply List.map_congr_left
   intro k hk
   rw [putT_row]
  unfold rowBlk
  rw [e]
  exact blk_far h.top (h.each i hi).2.1.symm _
 each := fun k hk => by
  rw [putT_length] at hk
  refine ⟨(h.each k hk).1, (h.each k hk).2.1, ?_⟩
  by_cases e : k = i
  ·subst e
   have e2 : (putT T k j v).getD k [] = (T.getD k []).set j v := by unfold putT; simp [List.getD_eq_getElem?_getD, hk]
   rw [e2]
   exact blk_put (h.each k hk).2.2 j _ (by simp)
  ·have e2 : (putT T i j v).getD k [] = T.getD k [] := by
    unfold putT
    rw [List.getD_eq_getElem?_getD, List.getElem?_set_ne (fun e3 => e e3.symm), List.getD_eq_getElem?_getD]
   rw [e2]
   exact blk_far (h.each k hk).2.2 (fun e3 => e (h.inj k i hk hi e3)) _
 inj := fun k k' hk hk' => h.inj k k' (by rwa [putT_length] at hk) (by rwa [putT_length] at hk')
theorem info_ints : (Try.prog.info? 3).map (fun i => (i.zero, i.size, i.bytes)) = some (some (.int .i64 0), 1, 8) := by kernel_rfl

theorem madeInts (m : Nat) : madeCells #[Value.int .i64 0] m = ((List.replicate m (0 : Int)).map (Value.int .i64)).toArray := by
 apply Array.ext
 ·simp [madeCells]
 ·intro i h1 h2; simp [madeCells, Nat.mod_one]


end Go.Proofs.Ytdcdkckpmkfjdaa

namespace Go.Proofs.Ytdcdkckpmkfjdaa
open Go.RowKit Go.Proofs.YtdcdkckpmkfjdaaW.PrintWords Go.Proofs.YtdcdkckpmkfjdaaW.PrintLast Go.Proofs.YtdcdkckpmkfjdaaW.PrintMore
set_option linter.unusedVariables false
set_option linter.unusedSimpArgs false

/-- A table of copies while it is filled: i rows are there. -/
structure CopyAt (w wr : World) (g0 : Nat) (T : List (List Int)) (i : Nat) (gs : Nat → Nat) : Prop where
 below : Below w.heap.size w wr
 ge : w.heap.size ≤ g0
 top : rowBlk wr g0 ((List.range i).map (fun k => Value.slice (some ⟨gs k, 0, none⟩) (T.getD k []).length (T.getD k []).length) ++ List.replicate (T.length - i) (.slice none 0 0))
 each : ∀ k, k < i → g0 < gs k ∧ intBlk wr (gs k) (T.getD k [])
 inj : ∀ k k', k < k' → k' < i → gs k < gs k'
theorem CopyAt.drew {w wr : World} {g0 i : Nat} {T : List (List Int)} {gs : Nat → Nat} (h : CopyAt w wr g0 T i gs) : CopyAt w wr.drew g0 T i gs where
 below := below_drew h.below
 ge := h.ge
 top := h.top
 each := h.each
 inj := h.inj
theorem CopyAt.mono {w wr wr' : World} {g0 i : Nat} {T : List (List Int)} {gs : Nat → Nat} (h : CopyAt w wr g0 T i gs) (hb : Below wr.heap.size wr wr') : CopyAt w wr' g0 T i gs where
 below := below_step h.below hb
 ge := h.ge
 top := blk_below h.top hb
 each := fun k hk => ⟨(h.each k hk).1, blk_below (h.each k hk).2 hb⟩
 inj := h.inj
theorem CopyAt.cell {w wr : World} {g0 i : Nat} {T : List (List Int)} {gs : Nat → Nat} (h : CopyAt w wr g0 T i gs) (hi : i < T.length) : wr.cell? ⟨g0, i, none⟩ = some (.slice none 0 0) := by
 rw [blk_cell h.top]
 obtain ⟨m, hm⟩ : ∃ m, T.length - i = m + 1 := ⟨T.length - i - 1, by omega⟩
 simp [hm, List.replicate_succ]
theorem CopyAt.free {w wr : World} {g0 i : Nat} {T : List (List Int)} {gs : Nat → Nat} (h : CopyAt w wr g0 T i gs) (x : Nat) : wr.frozen? ⟨g0, x, none⟩ = false := blk_frozen h.top x
theorem CopyAt.next {w wr : World} {g0 i gi : Nat} {T : List (List Int)} {gs : Nat → Nat} (h : CopyAt w wr g0 T i gs) (hi : i < T.length) (hr : intBlk wr gi (T.getD i [])) (hgt : g0 < gi) (hnew : ∀ k, k < i → gs k < gi) :
  CopyAt w (wr.setCell ⟨g0, i, none⟩ (.slice (some ⟨gi, 0, none⟩) (T.getD i []).length (T.getD i []).length)) g0 T (i + 1) (fun k => if k = i then gi else gs k) where
 below := h.below.setCell h.ge _
 ge := h.ge
 top := by
  have e : (List.range (i + 1)).map (fun k => Value.slice (some ⟨if k = i then gi else gs k, 0, none⟩) (T.getD k []).length (T.getD k []).length) = (List.range i).map (fun k => Value.slice (some ⟨gs k, 0, none⟩) (T.getD k []).length (T.getD k []).length) ++ [.slice (some ⟨gi, 0, none⟩) (T.getD i []).length (T.getD i []).length] := by
   rw [List.range_succ, List.map_append]
   congr 1
   ·apply List.map_congr_left
    intro k hk
    rw [if_neg (by have := List.mem_range.1 hk; omega)]
   ·simp
  unfold rowBlk
  rw [e]
  refine blk_put h.top i _ ?_
  obtain ⟨m, hm⟩ : ∃ m, T.length - i = m + 1 := ⟨T.length - i - 1, by omega⟩
  rw [hm, show T.length - (i + 1) = m by omega]
  simp [List.replicate_succ, List.set_append]
 each := fun k hk => by
  by_cases e : k = i
  ·subst e
   rw [if_pos rfl]
   exact ⟨hgt, blk_far hr (by show gi ≠ g0; omega) _⟩
  ·rw [if_neg e]
   obtain ⟨h1, h2⟩ := h.each k (by omega)
   exact ⟨h1, blk_far h2 (by show gs k ≠ g0; omega) _⟩
 inj := fun k k' h1 h2 => by
  rw [if_neg (show ¬ k = i by omega)]
  by_cases e : k' = i
  ·rw [if_pos e]; exact hnew k (by omega)
  ·rw [if_neg e]; exact h.inj k k' h1 (by omega)
theorem rowsAt {w : World} {A : Option Addr} {n : Nat} {xs : List (List Int)} (h : Kd.C (Kd.slice 3 (Kd.int .i64)) w A n xs) (i : Nat) (h1 : i < n) : ∃ ad A0 c0, A = some ad ∧ w.cell? (ad.add i) = some (.slice A0 (xs.getD i []).length c0) ∧ (xs.getD i []).length ≤ c0 ∧ (Kd.int .i64).C w A0 (xs.getD i []).length (xs.getD i []) := by
 obtain ⟨ad, c, e, _, hK, hc0⟩ := Kd.C_get h ([] : List Int) (i : Int) (by omega) (by omega)
 obtain ⟨A0, c0, rfl, l0, g0⟩ := hK
 have hq := hc0 0 _ rfl
 simp only [Int.toNat_natCast] at hq l0 g0
 exact ⟨ad, A0, c0, e, by have : (Kd.slice 3 (Kd.int .i64)).sz = 1 := rfl; rw [this, Nat.mul_one, Nat.add_zero] at hq; exact hq, l0, g0⟩

def rowsOk (T : List (List Int)) : Prop := T.length ≤ 11728124029610 ∧ ∀ r ∈ T, r.length ≤ 17592186044416
end Go.Proofs.Ytdcdkckpmkfjdaa

namespace Go.Proofs.Ytdcdkckpmkfjdaa
open Go.RowKit Go.Proofs.YtdcdkckpmkfjdaaW.PrintWords Go.Proofs.YtdcdkckpmkfjdaaW.PrintLast Go.Proofs.YtdcdkckpmkfjdaaW.PrintMore
set_option linter.unusedVariables false
set_option linter.unusedSimpArgs false

theorem getD_at {α : Type} (l : List α) (d : α) (i : Nat) (h : i < l.length) : l.getD i d = l[i] := by simp [List.getD_eq_getElem?_getD, h]
set_option maxHeartbeats 2000000 in
theorem slices_IndexFunc_rows.calls (g : Nat) (lb : Array Value) (p : List Int → Bool) (A0 : Option Addr) (c0 : Nat) (l0 : List (List Int)) (w : World)
  (eg : ∀ args w, (callFunc g args).run Try.prog w = .ok (.enter g args) w)
  (hp : ∀ (x : List Int) (A : Option Addr) (c : Nat) (W : World), x ∈ l0 → Below w.heap.size w W → Kd.C (Kd.int .i64) W A x.length x → x.length ≤ c → Gives Try.prog g (#[.slice A x.length c] ++ lb) W (.bool (p x)))
  (hr0 : Kd.C (Kd.slice 3 (Kd.int .i64)) w A0 l0.length l0) (hc0 : l0.length ≤ c0) :
  Calls Try.prog 149 #[.slice A0 l0.length c0, .func (.func g) #[] lb] w fun e w' => e = .returned (.int .i64 (idxOf p l0)) ∧ Below w.heap.size w w' := by
 have hm := hr0.2.1
 have HR0 := Aside0.mk hr0
 have HP := Aside0.mk hp
 clear hr0 hc0 hp
 have hm1 : l0.length ≤ 9223372036854775807 := hm
 go_enter Try.func149, Try.ntmps149
 go_wp2
 go_loopg [5, 8] l0.length (fun gg _ s8 wr => ∃ kk : Nat, kk ≤ l0.length ∧ l0.length - kk ≤ gg ∧ s8 = .int .i64 kk ∧ Aside0 (Below w.heap.size w wr) ∧ Aside0 (∀ j (hj : j < l0.length), j < kk → p l0[j] = false))
 case atStart => exact ⟨0, Nat.zero_le _, by omega, rfl, ⟨Below.refl _ _⟩, ⟨fun j _ hj => absurd hj (Nat.not_lt_zero _)⟩⟩
 case round =>
  obtain ⟨kk, hkk, hg, rfl, HB, HN⟩ := hrel
  by_cases hlt : kk < l0.length
  ·have hltz : (kk : Int) < (l0.length : Int) := by omega
   obtain ⟨ad, A1, c1, e0, hx, hc1, hrow⟩ := rowsAt HR0.out kk hlt
   cases e0
   replace hx := pw_cell_below HB.out hx
   rw [getD_at l0 [] kk hlt] at hx hc1 hrow
   have hcall := HP.out l0[kk] A1 c1 wr (List.getElem_mem hlt) HB.out (Kd.C_below hrow HB.out) hc1
   generalize hy : l0[kk] = y at hx hcall
   have HY := Aside0.mk hy
   clear hy hrow hc1
   cases hq : p y with
   | true =>
    rw [hq] at hcall
    have HQ := Aside0.mk hq
    clear hq
    go_wp2_with (go_at_fn g; refine (hcall).mono ?_; rintro e w' ⟨rfl, hb⟩)
    go_ret
    refine ⟨?_, below_then HB.out HB.out.size hb⟩
    unfold idxOf
    rw [idxFrom_hit p l0 0 kk hlt (fun j hj => HN.out j (by omega) hj) (by rw [HY.out]; exact HQ.out), Nat.zero_add]
    rfl
   | false =>
    rw [hq] at hcall
    have HQ := Aside0.mk hq
    clear hq
    go_wp2_with (go_at_fn g; refine (hcall).mono ?_; rintro e w' ⟨rfl, hb⟩)
    go_roundg (l0.length - (kk + 1))
    case measure => omega
    case rel =>
     refine ⟨kk + 1, by omega, by omega, by go_num, ⟨below_then HB.out HB.out.size hb⟩, ⟨fun j hj hjk => ?_⟩⟩
     by_cases e : j = kk
     ·subst e
      rw [HY.out]; exact HQ.out
     ·exact HN.out j hj (by omega)
  ·have hltz : ¬ (kk : Int) < (l0.length : Int) := by omega
   go_wp2
   go_ret
   refine ⟨?_, HB.out⟩
   unfold idxOf
   rw [idxFrom_miss p l0 0 (fun j hj => HN.out j hj (by omega))]
   rfl

end Go.Proofs.Ytdcdkckpmkfjdaa

namespace Go.Proofs.Ytdcdkckpmkfjdaa
open Go.RowKit Go.Proofs.YtdcdkckpmkfjdaaW.PrintWords Go.Proofs.YtdcdkckpmkfjdaaW.PrintLast Go.Proofs.YtdcdkckpmkfjdaaW.PrintMore
set_option linter.unusedVariables false
set_option linter.unusedSimpArgs false

/-- Row i of a table of the call's own: it stays as long as only block g is written, or what is new. -/
theorem rowKept {w1 : World} {base g : Nat} {P : Nat → Prop} {A : Option Addr} {n c : Nat} {T : List (List Int)} (h : Kd.S (Kd.slice 3 (Kd.int .i64)) 22 w1 base P (.slice A n c) T) (hg : g < base) (i : Nat) (hi : i < T.length) :
  ∃ (g0 : Nat) (A1 : Option Addr) (c1 : Nat), A = some ⟨g0, 0, none⟩ ∧ ∀ W', Kept w1 W' (fun k => k = g) → W'.cell? ⟨g0, i, none⟩ = some (.slice A1 (T.getD i []).length c1) ∧ (T.getD i []).length ≤ c1 ∧ (Kd.int .i64).C W' A1 (T.getD i []).length (T.getD i []) := by
 have hb := Kd.S_bound h
 obtain ⟨ad, rfl, _⟩ := (Kd.R_reads' (Kd.S_R hb)).2.2.2.2 (show 0 < T.length by omega)
 have hn := (Kd.R_reads' (Kd.S_R hb)).1
 obtain ⟨g0, rfl⟩ := Kd.R_head (Kd.S_R hb)
 obtain ⟨oki, cs, hcl, hM, hcc, hfr, hoki, hH⟩ := Kd.S_elem hb ([] : List Int) (i : Int) (by omega) (by omega)
 obtain ⟨v, rfl, hR⟩ := hM
 simp only [Int.toNat_natCast] at hR hcc
 obtain ⟨A1, c1, rfl⟩ := Kd.R_slice hR
 refine ⟨g0, A1, c1, rfl, fun W' hk => ?_⟩
 have h2 := Kd.R_reads' (Kd.R_kept hR hk (fun k ho e => by have := (hoki k ho).1.2.1; omega))
 have hc := hcc 0 _ rfl
 have h0 := (Kd.S_R hb).1 g0 rfl
 have hsz : (Kd.slice 3 (Kd.int .i64)).sz = 1 := rfl
 rw [hsz, Nat.mul_one, Nat.add_zero] at hc
 exact ⟨cell_kept hc hk (by show ¬ g0 = g; have := h0.2.1; omega), h2.2.1, h2.2.2⟩
end Go.Proofs.Ytdcdkckpmkfjdaa

namespace Go.Proofs.Ytdcdkckpmkfjdaa
open Go.RowKit Go.Proofs.YtdcdkckpmkfjdaaW.PrintWords Go.Proofs.YtdcdkckpmkfjdaaW.PrintLast Go.Proofs.YtdcdkckpmkfjdaaW.PrintMore
set_option linter.unusedVariables false
set_option linter.unusedSimpArgs false

def RetR (w : World) (l : List Int) (e : Ending) (w' : World) : Prop := ∃ v0_ : Value, e = .returned (v0_) ∧ Kd.R (Kd.int .i64) 3 w' w.heap.size (fun _ => True) v0_ l ∧ Below w.heap.size w w'
end Go.Proofs.Ytdcdkckpmkfjdaa

namespace Go.Proofs.Ytdcdkckpmkfjdaa
open Go.RowKit Go.Proofs.YtdcdkckpmkfjdaaW.PrintWords Go.Proofs.YtdcdkckpmkfjdaaW.PrintLast Go.Proofs.YtdcdkckpmkfjdaaW.PrintMore
set_option linter.unusedVariables false
set_option linter.unusedSimpArgs false

/-- The table with f at each place. -/
def rowL (f : Nat → Nat → Int) (i cols : Nat) : List Int := (List.range cols).map (f i)
/-- The table as it is after i rows: rows gs 0 .. gs (i - 1) are whole, the others are not there yet. -/
structure TabAt (w wr : World) (g0 rows cols : Nat) (f : Nat → Nat → Int) (i : Nat) (gs : Nat → Nat) : Prop where
 below : Below w.heap.size w wr
 ge : w.heap.size ≤ g0
 top : rowBlk wr g0 ((List.range i).map (fun k => Value.slice (some ⟨gs k, 0, none⟩) cols cols) ++ List.replicate (rows - i) (.slice none 0 0))
 each : ∀ k, k < i → g0 < gs k ∧ intBlk wr (gs k) (rowL f k cols)
 inj : ∀ k k', k < k' → k' < i → gs k < gs k'

/-- The row i while it is filled: j numbers are there. -/
structure RowAt (w wr : World) (g0 rows cols : Nat) (f : Nat → Nat → Int) (i : Nat) (gs : Nat → Nat) (gi j : Nat) : Prop where
 below : Below w.heap.size w wr
 ge : w.heap.size ≤ g0
 top : rowBlk wr g0 ((List.range i).map (fun k => Value.slice (some ⟨gs k, 0, none⟩) cols cols) ++ (.slice (some ⟨gi, 0, none⟩) cols cols :: List.replicate (rows - (i + 1)) (.slice none 0 0)))
 each : ∀ k, k < i → g0 < gs k ∧ intBlk wr (gs k) (rowL f k cols)
 inj : ∀ k k', k < k' → k' < i → gs k < gs k'
 now : intBlk wr gi ((List.range j).map (f i) ++ List.replicate (cols - j) 0)
 last : ∀ k, k < i → gs k < gi
 gt : g0 < gi

theorem RowAt.mono {w wr wr' : World} {g0 rows cols i gi j : Nat} {f : Nat → Nat → Int} {gs : Nat → Nat} (h : RowAt w wr g0 rows cols f i gs gi j) (hb : Below wr.heap.size wr wr') : RowAt w wr' g0 rows cols f i gs gi j where
 below := below_step h.below hb
 ge := h.ge
 top := blk_below h.top hb
 each := fun k hk => ⟨(h.each k hk).1, blk_below (h.each k hk).2 hb⟩
 inj := h.inj
 now := blk_below h.now hb
 last := h.last
 gt := h.gt

theorem RowAt.drew {w wr : World} {g0 rows cols i gi j : Nat} {f : Nat → Nat → Int} {gs : Nat → Nat} (h : RowAt w wr g0 rows cols f i gs gi j) : RowAt w wr.drew g0 rows cols f i gs gi j where
 below := below_drew h.below
 ge := h.ge
 top := h.top
 each := h.each
 inj := h.inj
 now := h.now
 last := h.last
 gt := h.gt
theorem RowAt.free {w wr : World} {g0 rows cols i gi j : Nat} {f : Nat → Nat → Int} {gs : Nat → Nat} (h : RowAt w wr g0 rows cols f i gs gi j) (x : Nat) : wr.frozen? ⟨gi, x, none⟩ = false := blk_frozen h.now x
theorem RowAt.put {w wr : World} {g0 rows cols i gi j : Nat} {f : Nat → Nat → Int} {gs : Nat → Nat} (h : RowAt w wr g0 rows cols f i gs gi j) (hj : j < cols) : RowAt w (wr.setCell ⟨gi, j, none⟩ (.int .i64 (f i j))) g0 rows cols f i gs gi (j + 1) where
 below := h.below.setCell (by have := h.gt; have := h.ge; show _ ≤ gi; omega) _
 ge := h.ge
 top := blk_far h.top (by have := h.gt; show g0 ≠ gi; omega) _
 each := fun k hk => ⟨(h.each k hk).1, blk_far (h.each k hk).2 (by have := h.last k hk; show gs k ≠ gi; omega) _⟩
 inj := h.inj
 now := blk_put h.now j _ (by
  obtain ⟨m, hm⟩ : ∃ m, cols - j = m + 1 := ⟨cols - j - 1, by omega⟩
  rw [hm, show cols - (j + 1) = m by omega]
  simp [List.replicate_succ, List.range_succ, List.set_append])
 last := h.last
 gt := h.gt
theorem RowAt.done {w wr : World} {g0 rows cols i gi : Nat} {f : Nat → Nat → Int} {gs : Nat → Nat} (h : RowAt w wr g0 rows cols f i gs gi cols) (hi : i < rows) : TabAt w wr g0 rows cols f (i + 1) (fun k => if k = i then gi else gs k) where
 below := h.below
 ge := h.ge
 top := by
  have := h.top
  have e : (List.range (i + 1)).map (fun k => Value.slice (some ⟨if k = i then gi else gs k, 0, none⟩) cols cols) = (List.range i).map (fun k => Value.slice (some ⟨gs k, 0, none⟩) cols cols) ++ [.slice (some ⟨gi, 0, none⟩) cols cols] := by
   rw [List.range_succ, List.map_append]
   congr 1
   ·apply List.map_congr_left
    intro k hk
    rw [if_neg (by have := List.mem_range.1 hk; omega)]
   ·simp
  unfold rowBlk
  rw [e, List.append_assoc]
  exact this
 each := fun k hk => by
  by_cases e : k = i
  ·subst e
   rw [if_pos rfl]
   refine ⟨h.gt, ?_⟩
   have := h.now
   simpa [rowL] using this
  ·rw [if_neg e]
   exact h.each k (by omega)
 inj := fun k k' h1 h2 => by
  rw [if_neg (show ¬ k = i by omega)]
  by_cases e : k' = i
  ·rw [if_pos e]; exact h.last k (by omega)
  ·rw [if_neg e]; exact h.inj k k' h1 (by omega)
theorem TabAt.free {w wr : World} {g0 rows cols i : Nat} {f : Nat → Nat → Int} {gs : Nat → Nat} (h : TabAt w wr g0 rows cols f i gs) (x : Nat) : wr.frozen? ⟨g0, x, none⟩ = false := blk_frozen h.top x
end Go.Proofs.Ytdcdkckpmkfjdaa

namespace Go.Proofs.Ytdcdkckpmkfjdaa
open Go.RowKit Go.Proofs.YtdcdkckpmkfjdaaW.PrintWords Go.Proofs.YtdcdkckpmkfjdaaW.PrintLast Go.Proofs.YtdcdkckpmkfjdaaW.PrintMore
set_option linter.unusedVariables false
set_option linter.unusedSimpArgs false

/-- A table of the call's own, with its outer block's cells in sight. -/
structure RawT (W : World) (B : Nat) (ok : Nat → Prop) (g cap : Nat) (f : Nat → Nat) (us : List Value) (l : List (List Int)) : Prop where
 len : us.length = l.length
 le : l.length ≤ cap
 max : cap ≤ maxLen
 ge : B ≤ g
 okg : ok g
 top : ∃ cur : Array Value, W.heap[g]? = some (.cells cur 22 (0, 0)) ∧ cur.size = cap ∧ cur.toList.take l.length = us
 each : ∀ (j : Nat) (x : List Int) (u : Value), l[j]? = some x → us[j]? = some u → (Kd.int .i64).R 3 W B (fun k => (ok k ∧ k ≠ g) ∧ f k = j) u x
theorem RawT.S {W : World} {B : Nat} {ok : Nat → Prop} {g cap : Nat} {f : Nat → Nat} {us : List Value} {l : List (List Int)} (h : RawT W B ok g cap f us l) : Kd.S (Kd.slice 3 (Kd.int .i64)) 22 W B ok (.slice (some ⟨g, 0, none⟩) l.length cap) l := by
 obtain ⟨cur, hh, hsz, htk⟩ := h.top
 have hsz1 : (Kd.tag f (Kd.slice 3 (Kd.int .i64))).sz = 1 := rfl
 refine ⟨f, fun k hk => ?_, us, ?_, ?_⟩
 ·have : g = k := by simpa [Value.ownBlock] using hk
  exact this ▸ h.okg
 ·rw [List.length_zipIdx]
  exact ⟨by rw [hsz1, Nat.mul_one]; exact h.len, .inr ⟨g, cap, cur, rfl, h.ge, hh, h.le, h.max, by rw [hsz1, Nat.mul_one]; exact hsz, by rw [hsz1, Nat.mul_one]; exact htk⟩⟩
 ·refine ⟨by rw [hsz1, Nat.mul_one, List.length_zipIdx]; exact h.len, fun j p hj => ?_⟩
  have hj2 : j < l.length := by have := (List.getElem?_eq_some_iff.1 hj).1; simpa using this
  have hp : p = (l[j], j) := by
   have := (List.getElem?_eq_some_iff.1 hj).2
   rw [← this]; simp
  subst hp
  have hju : j < us.length := by rw [h.len]; exact hj2
  rw [hsz1, Nat.mul_one, List.drop_eq_getElem_cons hju, List.take_succ_cons, List.take_zero]
  refine ⟨us[j], rfl, Kd.R_mono (h.each j l[j] us[j] (List.getElem?_eq_getElem hj2) (List.getElem?_eq_getElem hju)) (fun k hk => ⟨⟨hk.1.1, fun e => hk.1.2 (by simpa [Value.ownBlock] using e)⟩, hk.2⟩)⟩
theorem RawT.kept {W W' : World} {B : Nat} {ok : Nat → Prop} {g cap : Nat} {f : Nat → Nat} {us : List Value} {l : List (List Int)} (h : RawT W B ok g cap f us l) (hk : Kept W W' (fun k => k = g)) (j : Nat) (x : List Int) (u : Value) (hx : l[j]? = some x) (hu : us[j]? = some u) : (Kd.int .i64).R 3 W' B (fun k => (ok k ∧ k ≠ g) ∧ f k = j) u x :=
 Kd.R_kept (h.each j x u hx hu) hk (fun k hk => hk.1.2)

/-- The rows (with their places) that are kept of the first j. -/
def selZ (p : List Int → Bool) (us : List Value) (l : List (List Int)) (j : Nat) : List ((Value × List Int) × Nat) := (((us.zip l).zipIdx).take j).filter fun q => !p q.1.2
def selV (p : List Int → Bool) (us : List Value) (l : List (List Int)) (j : Nat) : List Value := (selZ p us l j).map (·.1.1)
theorem selZ_succ (p : List Int → Bool) (us : List Value) (l : List (List Int)) (j : Nat) (hj : j < l.length) (hju : j < us.length) : selZ p us l (j + 1) = selZ p us l j ++ (if p l[j] = true then [] else [((us[j], l[j]), j)]) := by
 unfold selZ
 have hz : j < (us.zip l).zipIdx.length := by simp; omega
 rw [List.take_succ_eq_append_getElem hz, List.filter_append]
 congr 1
 rw [List.getElem_zipIdx, List.getElem_zip]
 by_cases hp : p l[j] = true <;> simp [hp]
theorem selV_succ (p : List Int → Bool) (us : List Value) (l : List (List Int)) (j : Nat) (hj : j < l.length) (hju : j < us.length) : selV p us l (j + 1) = selV p us l j ++ (if p l[j] = true then [] else [us[j]]) := by
 unfold selV
 rw [selZ_succ p us l j hj hju, List.map_append]
 by_cases hp : p l[j] = true <;> simp [hp]
theorem selV_le (p : List Int → Bool) (us : List Value) (l : List (List Int)) (j : Nat) : (selV p us l j).length ≤ j := by
 unfold selV selZ
 rw [List.length_map]
 exact Nat.le_trans (List.length_filter_le _ _) (by rw [List.length_take]; exact Nat.min_le_left _ _)
theorem selV_all (p : List Int → Bool) (us : List Value) (l : List (List Int)) (hlen : us.length = l.length) (i : Nat) (hi : i ≤ l.length) (h : ∀ j (hj : j < l.length), j < i → p l[j] = false) : selV p us l i = us.take i := by
 induction i with
 | zero => simp [selV, selZ]
 | succ i ih =>
  rw [selV_succ p us l i (by omega) (by omega), ih (by omega) (fun j hj hji => h j hj (by omega)), h i (by omega) (by omega), List.take_succ_eq_append_getElem (by omega)]
  rfl
theorem selZ_rows (p : List Int → Bool) (us : List Value) (l : List (List Int)) (hlen : us.length = l.length) : (selZ p us l l.length).map (·.1.2) = l.filter fun x => !p x := by
 unfold selZ
 rw [List.take_of_length_le (by simp; omega)]
 have h1 : ((us.zip l).zipIdx.map (·.1.2)) = l := by
  apply List.ext_getElem
  ·simp; omega
  ·intro i h1 h2; simp
 conv => rhs; rw [← h1]
 rw [List.filter_map]
 rfl
theorem selZ_at (p : List Int → Bool) (us : List Value) (l : List (List Int)) (n j : Nat) (q : (Value × List Int) × Nat) (h : (selZ p us l n)[j]? = some q) : us[q.2]? = some q.1.1 ∧ l[q.2]? = some q.1.2 := by
 have hm : q ∈ (us.zip l).zipIdx := List.mem_of_mem_take (List.mem_filter.1 (List.mem_of_getElem? h)).1
 obtain ⟨i, hi, hq⟩ := List.getElem_of_mem hm
 rw [List.getElem_zipIdx, List.getElem_zip] at hq
 subst hq
 simp only [List.length_zipIdx, List.length_zip] at hi
 simp only [Nat.zero_add]
 exact ⟨List.getElem?_eq_getElem (by omega), List.getElem?_eq_getElem (by omega)⟩
theorem selZ_nodup (p : List Int → Bool) (us : List Value) (l : List (List Int)) (n : Nat) : ((selZ p us l n).map (·.2)).Nodup := by
 have h1 : ((us.zip l).zipIdx.map (·.2)).Nodup := by
  rw [List.zipIdx_map_snd]
  exact List.nodup_range'
 refine h1.sublist (List.Sublist.map _ ?_)
 exact List.Sublist.trans List.filter_sublist (List.take_sublist _ _)
/-- What is left, as a table of its own. -/
theorem RawT.sel {W W' : World} {B : Nat} {ok : Nat → Prop} {g cap : Nat} {f : Nat → Nat} {us : List Value} {l : List (List Int)} (h : RawT W B ok g cap f us l) (hk : Kept W W' (fun k => k = g)) (p : List Int → Bool)
  (ht : ∃ cur : Array Value, W'.heap[g]? = some (.cells cur 22 (0, 0)) ∧ cur.size = cap ∧ cur.toList.take (selV p us l l.length).length = selV p us l l.length) :
  RawT W' B ok g cap (fun k => ((selZ p us l l.length).map (·.2)).idxOf (f k)) (selV p us l l.length) (l.filter fun x => !p x) := by
 have e := selZ_rows p us l h.len
 have el : (l.filter fun x => !p x).length = (selZ p us l l.length).length := by rw [← e, List.length_map]
 refine ⟨by rw [el]; simp [selV], ?_, h.max, h.ge, h.okg, by rw [el, ← show (selV p us l l.length).length = (selZ p us l l.length).length from by simp [selV]]; exact ht, fun j x u hx hu => ?_⟩
 ·rw [el]
  have := selV_le p us l l.length
  have := h.le
  simp only [selV, List.length_map] at *
  omega
 ·rw [← e, List.getElem?_map] at hx
  obtain ⟨q, hq, hq2⟩ := Option.map_eq_some_iff.1 hx
  subst hq2
  have hu2 : u = q.1.1 := by
   unfold selV at hu
   rw [List.getElem?_map, hq] at hu
   exact (Option.some.inj hu).symm
  subst hu2
  obtain ⟨h1, h2⟩ := selZ_at p us l l.length j q hq
  refine Kd.R_mono (h.kept hk q.2 q.1.2 q.1.1 h2 h1) (fun k hk => ⟨hk.1, ?_⟩)
  show ((selZ p us l l.length).map (·.2)).idxOf (f k) = j
  rw [hk.2]
  have hj : j < ((selZ p us l l.length).map (·.2)).length := by rw [List.length_map]; exact (List.getElem?_eq_some_iff.1 hq).1
  have hjq : ((selZ p us l l.length).map (·.2))[j] = q.2 := by rw [List.getElem_map, (List.getElem?_eq_some_iff.1 hq).2]
  rw [← hjq]
  exact List.Nodup.idxOf_getElem (selZ_nodup p us l l.length) j hj

/-- The outer block while rows shift: s of the first j are kept and stand in front; behind them it is as it was. -/
structure Shift (W wr : World) (B g cap : Nat) (cur0 : Array Value) (sv : List Value) : Prop where
 kept : Kept W wr (fun k => k = g)
 top : ∃ cur : Array Value, wr.heap[g]? = some (.cells cur 22 (0, 0)) ∧ cur.size = cap ∧ cur.toList = sv ++ cur0.toList.drop sv.length
theorem Shift.below {W wr wr' : World} {B g cap : Nat} {cur0 : Array Value} {sv : List Value} (h : Shift W wr B g cap cur0 sv) (hb : Below wr.heap.size wr wr') : Shift W wr' B g cap cur0 sv where
 kept := h.kept.below hb
 top := by
  obtain ⟨cur, h1, h2, h3⟩ := h.top
  exact ⟨cur, blk_below h1 hb, h2, h3⟩
theorem Shift.cell {W wr : World} {B g cap : Nat} {cur0 : Array Value} {sv : List Value} (h : Shift W wr B g cap cur0 sv) (j : Nat) (u : Value) (hj : sv.length ≤ j) (hu : cur0.toList[j]? = some u) : wr.cell? ⟨g, j, none⟩ = some u := by
 obtain ⟨cur, h1, h2, h3⟩ := h.top
 rw [blk_cell h1, ← Array.getElem?_toList, h3, List.getElem?_append_right hj, List.getElem?_drop, Nat.add_sub_cancel' hj]
 exact hu
theorem Shift.free {W wr : World} {B g cap : Nat} {cur0 : Array Value} {sv : List Value} (h : Shift W wr B g cap cur0 sv) (j : Nat) : wr.frozen? ⟨g, j, none⟩ = false := by
 obtain ⟨cur, h1, h2, h3⟩ := h.top
 exact blk_frozen h1 j
theorem Shift.there {W wr : World} {B g cap : Nat} {cur0 : Array Value} {sv : List Value} (h : Shift W wr B g cap cur0 sv) (j : Nat) (hj : j < cap) : (wr.cell? ⟨g, j, none⟩).isSome = true := by
 obtain ⟨cur, h1, h2, h3⟩ := h.top
 rw [blk_cell h1, Array.getElem?_eq_getElem (by omega)]
 rfl
theorem Shift.put {W wr : World} {B g cap : Nat} {cur0 : Array Value} {sv : List Value} (h : Shift W wr B g cap cur0 sv) (u : Value) (hl : sv.length < cap) (hc : cur0.size = cap) : Shift W (wr.setCell ⟨g, sv.length, none⟩ u) B g cap cur0 (sv ++ [u]) where
 kept := h.kept.setCell (.inl rfl) u
 top := by
  obtain ⟨cur, h1, h2, h3⟩ := h.top
  refine ⟨_, blk_set h1 sv.length u, by simp [h2], ?_⟩
  rw [Array.toList_setIfInBounds, h3, List.set_append_right _ _ (Nat.le_refl _), Nat.sub_self]
  have : sv.length < cur0.toList.length := by have := Array.length_toList (xs := cur0); omega
  rw [List.drop_eq_getElem_cons this]
  simp
theorem Shift.clear {W wr : World} {B g cap n : Nat} {cur0 : Array Value} {sv : List Value} (h : Shift W wr B g cap cur0 sv) (hn : sv.length ≤ n) (hc : n ≤ cap) (z : Value) :
  Kept W (wr.setCells g sv.length (List.replicate (n - sv.length) z)) (fun k => k = g) ∧ ∃ cur : Array Value, (wr.setCells g sv.length (List.replicate (n - sv.length) z)).heap[g]? = some (.cells cur 22 (0, 0)) ∧ cur.size = cap ∧ cur.toList.take sv.length = sv := by
 obtain ⟨cur, h1, h2, h3⟩ := h.top
 obtain ⟨cur', k1, k2, k3⟩ := setCells_row (List.replicate (n - sv.length) z) sv.length wr cur h1 (by rw [List.length_replicate]; omega)
 refine ⟨⟨?_, fun i hi hne => ?_⟩, cur', k1, by omega, ?_⟩
 ·rw [(setCells_same g _ _ wr).2.2.2]; exact h.kept.1
 ·rw [setCells_far _ _ i hne]; exact h.kept.2 i hi hne
 ·rw [k3, h3, List.append_assoc]
  rw [List.take_append_of_le_length (by simp)]
  simp
theorem below_clear {W0 W : World} {B g : Nat} (hb : Below B W0 W) (hg : B ≤ g) (o : Nat) (vs : List Value) : Below B W0 (W.setCells g o vs) := by
 obtain ⟨h1, h2, h3, h4⟩ := setCells_same g vs o W
 exact ⟨h1.trans hb.os, h2.trans hb.tape, h3.trans hb.output, by rw [h4]; exact hb.size, fun k hk => (setCells_far vs o k (by omega)).trans (hb.block k hk)⟩
theorem cur_get {cur : Array Value} {us : List Value} {n j : Nat} {u : Value} (ht : cur.toList.take n = us) (hj : us[j]? = some u) : cur.toList[j]? = some u := by
 rw [← ht] at hj
 have h1 : j < (cur.toList.take n).length := (List.getElem?_eq_some_iff.1 hj).1
 rw [List.length_take] at h1
 rw [List.getElem?_take_of_lt (by omega)] at hj
 exact hj

def RetD (w : World) (B : Nat) (ok : Nat → Prop) (T : List (List Int)) (e : Ending) (w' : World) : Prop := ∃ v0_ : Value, e = .returned (v0_) ∧ Kd.S (Kd.slice 3 (Kd.int .i64)) 22 w' B ok v0_ T ∧ Below B w w'
theorem RetD.mk {w w' : World} {B : Nat} {ok : Nat → Prop} {T : List (List Int)} {v : Value} (h : Kd.S (Kd.slice 3 (Kd.int .i64)) 22 w' B ok v T) (hb : Below B w w') : RetD w B ok T (.returned v) w' := ⟨v, rfl, h, hb⟩
theorem idxFrom_range {α : Type} (p : α → Bool) (l : List α) : ∀ m : Nat, (idxFrom p m l = -1 ∧ ∀ j (hj : j < l.length), p l[j] = false) ∨ ∃ (i : Nat) (hi : i < l.length), idxFrom p m l = ((m + i : Nat) : Int) ∧ p l[i] = true ∧ ∀ j (hj : j < l.length), j < i → p l[j] = false := by
 induction l with
 | nil => intro m; exact .inl ⟨rfl, fun j hj => absurd hj (Nat.not_lt_zero _)⟩
 | cons x r ih =>
  intro m
  rw [idxFrom]
  cases hx : p x with
  | true => exact .inr ⟨0, by simp, by simp, by simpa using hx, fun j _ h => absurd h (Nat.not_lt_zero _)⟩
  | false =>
   rw [if_neg (by simp)]
   rcases ih (m + 1) with ⟨h1, h2⟩ | ⟨i, hi, h1, h2, h3⟩
   ·refine .inl ⟨h1, fun j hj => ?_⟩
    cases j with
    | zero => simpa using hx
    | succ j => simpa using h2 j (by simpa using hj)
   ·refine .inr ⟨i + 1, by simpa using hi, by rw [h1]; omega, by simpa using h2, fun j hj hji => ?_⟩
    cases j with
    | zero => simpa using hx
    | succ j => simpa using h3 j (by simpa using hj) (by omega)
end Go.Proofs.Ytdcdkckpmkfjdaa

namespace Go.Proofs.Ytdcdkckpmkfjdaa
open Go.RowKit Go.Proofs.YtdcdkckpmkfjdaaW.PrintWords Go.Proofs.YtdcdkckpmkfjdaaW.PrintLast Go.Proofs.YtdcdkckpmkfjdaaW.PrintMore
set_option linter.unusedVariables false
set_option linter.unusedSimpArgs false

/-- From W to W' nothing has changed but the blocks of S, and new ones. -/
structure Touch (W W' : World) (S : Nat → Prop) : Prop where
 os : W'.os = W.os
 tape : W'.tape = W.tape
 output : W'.output = W.output
 kept : Kept W W' S
theorem Touch.of_below {W W' : World} (h : Below W.heap.size W W') (S : Nat → Prop) : Touch W W' S := ⟨h.os, h.tape, h.output, Kept.of_below h S⟩
theorem Touch.refl (W : World) (S : Nat → Prop) : Touch W W S := Touch.of_below (Below.refl _ _) S
theorem Touch.trans {W W1 W2 : World} {S S2 : Nat → Prop} (h : Touch W W1 S) (k : Touch W1 W2 S2) (hs : ∀ k, S2 k → S k ∨ W.heap.size ≤ k) : Touch W W2 S :=
 ⟨k.os.trans h.os, k.tape.trans h.tape, k.output.trans h.output, h.kept.then_ k.kept hs⟩
theorem Touch.then_below {W W1 W2 : World} {S : Nat → Prop} (h : Touch W W1 S) (k : Below W1.heap.size W1 W2) : Touch W W2 S :=
 h.trans (Touch.of_below k (fun _ => False)) (fun _ hk => hk.elim)
theorem Touch.mono {W W' : World} {S S' : Nat → Prop} (h : Touch W W' S) (hs : ∀ k, S k → S' k) : Touch W W' S' := ⟨h.os, h.tape, h.output, h.kept.mono hs⟩
theorem Touch.size {W W' : World} {S : Nat → Prop} (h : Touch W W' S) : W.heap.size ≤ W'.heap.size := h.kept.1
theorem Touch.heap {W W' : World} {S : Nat → Prop} (h : Touch W W' S) {k : Nat} (hk : k < W.heap.size) (hn : ¬ S k) : W'.heap[k]? = W.heap[k]? := h.kept.2 k hk hn
theorem Touch.below {B : Nat} {W W' : World} {S : Nat → Prop} (h : Touch W W' S) (hS : ∀ k, S k → B ≤ k) (hB : B ≤ W.heap.size) : Below B W W' :=
 ⟨h.os, h.tape, h.output, h.kept.1, fun i hi => h.kept.2 i (by omega) (fun hk => by have := hS i hk; omega)⟩
theorem Touch.set {W W1 : World} {S : Nat → Prop} (h : Touch W W1 S) (p : Addr) (hp : S p.block ∨ W.heap.size ≤ p.block) (u : Value) : Touch W (W1.setCell p u) S := by
 refine ⟨?_, ?_, ?_, h.kept.setCell hp u⟩
 ·exact (show (W1.setCell p u).os = W1.os by simp [World.setCell]).trans h.os
 ·exact (show (W1.setCell p u).tape = W1.tape by simp [World.setCell]).trans h.tape
 ·exact (show (W1.setCell p u).output = W1.output by simp [World.setCell]).trans h.output
theorem Touch.blk {W W' : World} {S : Nat → Prop} (h : Touch W W' S) {g : Nat} {o : Obj} (hb : W.heap[g]? = some o) (hn : ¬ S g) : W'.heap[g]? = some o := (h.heap (blk_lt hb) hn).trans hb
theorem Touch.F {α : Type} {d : Kd α} {W W' : World} {S ok : Nat → Prop} {A : Option Addr} {n : Nat} {xs : List α} (h : Touch W W' S) (hf : Kd.F d W ok A n xs) (hn : ∀ k, ok k → ¬ S k) : Kd.F d W' ok A n xs := Kd.F_kept hf h.kept hn
/-- A state that a function value writes: St j W ok: j calls have been; its blocks are ok. -/
structure Stays (St : Nat → World → (Nat → Prop) → Prop) : Prop where
 lt : ∀ {j W ok}, St j W ok → ∀ k, ok k → k < W.heap.size
 step : ∀ {j W W' ok}, St j W ok → (∀ k, ok k → W'.heap[k]? = W.heap[k]?) → St j W' ok
theorem Stays.touch {St : Nat → World → (Nat → Prop) → Prop} (h : Stays St) {j : Nat} {W W' : World} {ok S : Nat → Prop} (hs : St j W ok) (ht : Touch W W' S) (hn : ∀ k, ok k → ¬ S k) : St j W' ok :=
 h.step hs (fun k hk => ht.heap (h.lt hs k hk) (hn k hk))
theorem Stays.below {St : Nat → World → (Nat → Prop) → Prop} (h : Stays St) {j : Nat} {W W' : World} {ok : Nat → Prop} (hs : St j W ok) (ht : Below W.heap.size W W') : St j W' ok :=
 h.step hs (fun k hk => ht.block k (h.lt hs k hk))
/-- What a call of the function value leaves. -/
def Stepped (St : Nat → World → (Nat → Prop) → Prop) (j : Nat) (W : World) (ok : Nat → Prop) (e : Ending) (W' : World) : Prop :=
 e = .returned (.bool true) ∧ ∃ ok', St j W' ok' ∧ Touch W W' ok ∧ ∀ k, ok' k → ok k ∨ W.heap.size ≤ k
end Go.Proofs.Ytdcdkckpmkfjdaa

namespace Go.Proofs.Ytdcdkckpmkfjdaa.P
open Go.RowKit Go.Proofs.YtdcdkckpmkfjdaaW.PrintWords Go.Proofs.YtdcdkckpmkfjdaaW.PrintLast Go.Proofs.YtdcdkckpmkfjdaaW.PrintMore
attribute [local go_sem] max2_int min2_int max_two min_two max_three min_three max_four min_four   -- for this text's walks alone
set_option linter.unusedVariables false
set_option linter.unusedSimpArgs false



def errW : Option Int → Value
 | none => .nilIface
 | some c => .iface 0 (.int .i64 c)
theorem errW_none : errW none = .nilIface := rfl
theorem errW_some (c : Int) : errW (some c) = .iface 0 (.int .i64 c) := rfl

theorem info3 : (Try.prog.info? 3).map (fun i => (i.zero, i.size, i.bytes)) = some (some (.int .i64 0), 1, 8) := by kernel_rfl
theorem info22 : (Try.prog.info? 22).map (fun i => (i.zero, i.size, i.bytes)) = some (some (.slice none 0 0), 1, 24) := by kernel_rfl
theorem info36 : (Try.prog.info? 36).map (fun i => (i.zero, i.size, i.bytes)) = some (some (.slice none 0 0), 1, 24) := by kernel_rfl
def rd_L1 (xs : List (List Int)) (i : Int) : (List Int) := xs.getD i.toNat ([] : List Int)
theorem at_L1 {w : World} {A : Option Addr} {n : Nat} {xs : List (List Int)} (h : Kd.C (Kd.slice 3 (Kd.int .i64)) w A n xs) (i : Int) (h0 : 0 ≤ i) (h1 : i < n) : ∃ ad A0 c0, A = some ad ∧ w.cell? (ad.add i.toNat) = some (.slice A0 (rd_L1 xs i).length c0) ∧ (rd_L1 xs i).length ≤ c0 ∧ (Kd.int .i64).C w A0 (rd_L1 xs i).length (rd_L1 xs i) := by
 obtain ⟨ad, c, e, _, hK, hc0⟩ := Kd.C_get h ([] : List Int) i h0 h1
 have hc : ∀ j u, c[j]? = some u → w.cell? (ad.add (i.toNat * 1 + j)) = some u := hc0
 obtain ⟨A0, c0, rfl, l0, g0⟩ := hK
 exact ⟨ad, A0, c0, e, by have hq := hc 0 _ rfl; rwa [Nat.mul_one, Nat.add_zero] at hq, l0, g0⟩

def rd_L2 (xs : List (List (List Int))) (i : Int) : (List (List Int)) := xs.getD i.toNat ([] : List (List Int))
theorem at_L2 {w : World} {A : Option Addr} {n : Nat} {xs : List (List (List Int))} (h : Kd.C (Kd.slice 22 (Kd.slice 3 (Kd.int .i64))) w A n xs) (i : Int) (h0 : 0 ≤ i) (h1 : i < n) : ∃ ad A0 c0, A = some ad ∧ w.cell? (ad.add i.toNat) = some (.slice A0 (rd_L2 xs i).length c0) ∧ (rd_L2 xs i).length ≤ c0 ∧ (Kd.slice 3 (Kd.int .i64)).C w A0 (rd_L2 xs i).length (rd_L2 xs i) := by
 obtain ⟨ad, c, e, _, hK, hc0⟩ := Kd.C_get h ([] : List (List Int)) i h0 h1
 have hc : ∀ j u, c[j]? = some u → w.cell? (ad.add (i.toNat * 1 + j)) = some u := hc0
 obtain ⟨A0, c0, rfl, l0, g0⟩ := hK
 exact ⟨ad, A0, c0, e, by have hq := hc 0 _ rfl; rwa [Nat.mul_one, Nat.add_zero] at hq, l0, g0⟩

end Go.Proofs.Ytdcdkckpmkfjdaa.P

namespace Go.Proofs.Ytdcdkckpmkfjdaa.P
open Go.RowKit Go.Proofs.YtdcdkckpmkfjdaaW.PrintWords Go.Proofs.YtdcdkckpmkfjdaaW.PrintLast Go.Proofs.YtdcdkckpmkfjdaaW.PrintMore
attribute [local go_sem] max2_int min2_int max_two min_two max_three min_three max_four min_four   -- for this text's walks alone
set_option linter.unusedVariables false
set_option linter.unusedSimpArgs false

def laws_eqIntS.l0 : Nat → List Int → List Int → Int → Option (Bool)
 | 0, _, _, _ => none
 | k + 1, x0, x1, x5 => if x5 < (x0.length : Int) then (if 0 ≤ x5 then (if x5 < (x1.length : Int) then (if (rd x0 x5) = (rd x1 x5) then (laws_eqIntS.l0 k x0 x1 (wrap64 (x5 + 1))) else (some false)) else (none)) else (none)) else (some true)
def laws_eqIntS.f (k : Nat) (l0 : List Int) (l1 : List Int) : Option (Bool) := if (l0.length : Int) = (l1.length : Int) then (laws_eqIntS.l0 k l0 l1 0) else (some false)
theorem laws_eqIntS.mono_l : ∀ k, (∀ y0 y1 y2, LeO (laws_eqIntS.l0 k y0 y1 y2) (laws_eqIntS.l0 (k + 1) y0 y1 y2))
 | 0 => fun _ _ _ r h => by simp [laws_eqIntS.l0] at h
 | k + 1 => by
  have ih0 := laws_eqIntS.mono_l k
  ·intro y0 y1 y2
   unfold laws_eqIntS.l0
   repeat' first
   | (with_reducible exact ih0 _ _ _)
   | (with_reducible exact LeO.refl _)
   | (with_reducible exact LeO.none _)
   | (with_reducible refine LeO.ite ?_ ?_)
   | (with_reducible refine LeO.bind ?_ (fun _ => ?_))
   | exact ih0 _ _ _
   | exact LeO.none _
   | refine LeO.ite ?_ ?_
   | refine LeO.bind ?_ (fun _ => ?_)
theorem laws_eqIntS.mono : ∀ a0 a1 k, LeO (laws_eqIntS.f k a0 a1) (laws_eqIntS.f (k + 1) a0 a1) := by
 intro a0 a1 k
 have ih0 := laws_eqIntS.mono_l k
 unfold laws_eqIntS.f
 repeat' first
   | (with_reducible exact ih0 _ _ _)
   | (with_reducible exact LeO.refl _)
   | (with_reducible exact LeO.none _)
   | (with_reducible refine LeO.ite ?_ ?_)
   | (with_reducible refine LeO.bind ?_ (fun _ => ?_))
   | exact ih0 _ _ _
   | exact LeO.none _
   | refine LeO.ite ?_ ?_
   | refine LeO.bind ?_ (fun _ => ?_)
set_option maxHeartbeats 8000000 in
set_option maxRecDepth 100000 in
theorem laws_eqIntS.calls (k : Nat) (A0 : Option Addr) (c0 : Nat) (l0 : List Int) (A1 : Option Addr) (c1 : Nat) (l1 : List Int) (r : Bool) (w : World) (hr0 : Kd.C (Kd.int .i64) w A0 l0.length l0) (hc0 : l0.length ≤ c0) (hr1 : Kd.C (Kd.int .i64) w A1 l1.length l1) (hc1 : l1.length ≤ c1) (h : laws_eqIntS.f k l0 l1 = some r) :
  Calls Try.prog 19 #[.slice A0 l0.length c0, .slice A1 l1.length c1] w fun e w' => e = .returned (.bool r) ∧ Drawn0 w w' := by
 have HR0 := Aside0.mk hr0
 have HC0 := Aside0.mk hc0
 clear hr0 hc0
 have HR1 := Aside0.mk hr1
 have HC1 := Aside0.mk hc1
 clear hr1 hc1
 have H : (if (l0.length : Int) = (l1.length : Int) then (laws_eqIntS.l0 k l0 l1 0) else (some false)) = some r := h
 clear h
 by_cases c3 : (l0.length : Int) = (l1.length : Int)
 ·rw [if_pos c3] at H
  have c3b0 : ((l0.length : Int) == (l1.length : Int)) = true := beq_iff_eq.mpr c3
  have c3b1 : ((l0.length : Int) != (l1.length : Int)) = false := bne_eq_false_iff_eq.mpr c3
  have c3b2 : (l0.length == l1.length) = true := by first | simpa using c3 | (simp at c3 ⊢; omega)
  clear c3
  have H' := Aside0.mk H
  clear H
  go_enter Try.func19, Try.ntmps19
  go_wp2
  repeat (go_quiet (fail); try go_wp2)
  go_loopg [5] k (fun kq v5 w' => ∃ (x5_1 : Int), v5 = .int .i64 x5_1 ∧ Aside0 (laws_eqIntS.l0 kq l0 l1 x5_1 = some r) ∧ Aside0 (kq ≤ k) ∧ Drawn0 w w')
  case atStart => exact ⟨(0), (by first | rfl | (simp; done) | (simp [*]; done)), H', ⟨Nat.le_refl _⟩, by repeat (first | exact Drawn0.refl _ | apply Drawn0.step)⟩
  case round =>
   clear H'
   try clear c1
   try clear p2
   try clear c3
   try clear c3b0
   try clear c3b1
   try clear c3b2
   obtain ⟨x5_1, rfl, HA, HK1, ⟨m1, rfl⟩⟩ := hrel
   cases gk with
   | zero => exact absurd HA.out (by simp [laws_eqIntS.l0])
   | succ k1 =>
    have H := HA.out
    clear HA
    simp only [laws_eqIntS.l0] at H
    by_cases c4 : x5_1 < (l0.length : Int)
    ·rw [if_pos c4] at H
     have c4b0 : decide (x5_1 < (l0.length : Int)) = true := decide_eq_true c4
     clear c4
     by_cases c5 : 0 ≤ x5_1
     ·rw [if_pos c5] at H
      have c5b0 : decide (0 ≤ x5_1) = true := decide_eq_true c5
      clear c5
      by_cases c6 : x5_1 < (l1.length : Int)
      ·rw [if_pos c6] at H
       have c6b0 : decide (x5_1 < (l1.length : Int)) = true := decide_eq_true c6
       clear c6
       by_cases c7 : (rd l0 x5_1) = (rd l1 x5_1)
       ·rw [if_pos c7] at H
        have c7b0 : ((rd l0 x5_1) == (rd l1 x5_1)) = true := beq_iff_eq.mpr c7
        have c7b1 : ((rd l0 x5_1) != (rd l1 x5_1)) = false := bne_eq_false_iff_eq.mpr c7
        clear c7
        have H' := Aside0.mk H
        clear H
        have p176 : 0 ≤ (x5_1 : Int) := of_decide_eq_true (by first | (with_reducible assumption) | assumption)
        have q176 : x5_1 < (l0.length : Int) := of_decide_eq_true (by first | (with_reducible assumption) | assumption)
        obtain ⟨ad176, e176, hx176_0⟩ := Kd.at_int HR0.out x5_1 p176 q176
        cases e176
        replace p176 := eq_true p176
        replace q176 := eq_true q176
        have p177 : 0 ≤ (x5_1 : Int) := of_decide_eq_true (by first | (with_reducible assumption) | assumption)
        have q177 : x5_1 < (l1.length : Int) := of_decide_eq_true (by first | (with_reducible assumption) | assumption)
        obtain ⟨ad177, e177, hx177_0⟩ := Kd.at_int HR1.out x5_1 p177 q177
        cases e177
        replace p177 := eq_true p177
        replace q177 := eq_true q177
        go_wp2
        repeat (go_quiet (fail); try go_wp2)
        go_roundg k1
        case measure => have := HK1.out; omega
        case rel => exact ⟨(wrap64 (x5_1 + 1)), (by first | rfl | (simp; done) | (simp [*]; done)), H', ⟨by have := HK1.out; omega⟩, by repeat (first | exact Drawn0.refl _ | apply Drawn0.step)⟩
       ·rw [if_neg c7] at H
        have c7b0 : ((rd l0 x5_1) == (rd l1 x5_1)) = false := beq_eq_false_iff_ne.mpr c7
        have c7b1 : ((rd l0 x5_1) != (rd l1 x5_1)) = true := bne_iff_ne.mpr c7
        obtain rfl := Option.some.inj H
        have p176 : 0 ≤ (x5_1 : Int) := of_decide_eq_true (by first | (with_reducible assumption) | assumption)
        have q176 : x5_1 < (l0.length : Int) := of_decide_eq_true (by first | (with_reducible assumption) | assumption)
        obtain ⟨ad176, e176, hx176_0⟩ := Kd.at_int HR0.out x5_1 p176 q176
        cases e176
        replace p176 := eq_true p176
        replace q176 := eq_true q176
        have p177 : 0 ≤ (x5_1 : Int) := of_decide_eq_true (by first | (with_reducible assumption) | assumption)
        have q177 : x5_1 < (l1.length : Int) := of_decide_eq_true (by first | (with_reducible assumption) | assumption)
        obtain ⟨ad177, e177, hx177_0⟩ := Kd.at_int HR1.out x5_1 p177 q177
        cases e177
        replace p177 := eq_true p177
        replace q177 := eq_true q177
        go_wp2
        repeat (go_quiet (fail); try go_wp2)
        go_ret
        exact ⟨by first | rfl | (simp; done) | (simp [*]; done), by repeat (first | exact Drawn0.refl _ | apply Drawn0.step)⟩
      ·rw [if_neg c6] at H
       exact absurd H (by simp)
     ·rw [if_neg c5] at H
      exact absurd H (by simp)
    ·rw [if_neg c4] at H
     have c4b0 : decide (x5_1 < (l0.length : Int)) = false := decide_eq_false c4
     clear c4
     obtain rfl := Option.some.inj H
     go_wp2
     repeat (go_quiet (fail); try go_wp2)
     go_ret
     exact ⟨by first | rfl | (simp; done) | (simp [*]; done), by repeat (first | exact Drawn0.refl _ | apply Drawn0.step)⟩
 ·rw [if_neg c3] at H
  have c3b0 : ((l0.length : Int) == (l1.length : Int)) = false := beq_eq_false_iff_ne.mpr c3
  have c3b1 : ((l0.length : Int) != (l1.length : Int)) = true := bne_iff_ne.mpr c3
  have c3b2 : (l0.length == l1.length) = false := by first | simpa using c3 | (simp at c3 ⊢; omega)
  obtain rfl := Option.some.inj H
  go_enter Try.func19, Try.ntmps19
  go_wp2
  repeat (go_quiet (fail); try go_wp2)
  go_ret
  exact ⟨by first | rfl | (simp; done) | (simp [*]; done), by repeat (first | exact Drawn0.refl _ | apply Drawn0.step)⟩

end Go.Proofs.Ytdcdkckpmkfjdaa.P

namespace Go.Proofs.Ytdcdkckpmkfjdaa.P
open Go.RowKit Go.Proofs.YtdcdkckpmkfjdaaW.PrintWords Go.Proofs.YtdcdkckpmkfjdaaW.PrintLast Go.Proofs.YtdcdkckpmkfjdaaW.PrintMore
attribute [local go_sem] max2_int min2_int max_two min_two max_three min_three max_four min_four   -- for this text's walks alone
set_option linter.unusedVariables false
set_option linter.unusedSimpArgs false

def laws_markIntS.l0 : Nat → List Int → Int → Int → Option (Int × List Int)
 | 0, _, _, _ => none
 | k + 1, x0, x1, x5 => if x5 < (x0.length : Int) then (if 0 ≤ x5 then (laws_markIntS.l0 k (x0.set (x5 : Int).toNat x1) (wrap64 (x1 + 1)) (wrap64 (x5 + 1))) else (none)) else (some (x1, x0))
def laws_markIntS.f (k : Nat) (l0 : List Int) (a1 : Int) : Option (Int × List Int) := laws_markIntS.l0 k l0 a1 0
theorem laws_markIntS.mono_l : ∀ k, (∀ y0 y1 y2, LeO (laws_markIntS.l0 k y0 y1 y2) (laws_markIntS.l0 (k + 1) y0 y1 y2))
 | 0 => fun _ _ _ r h => by simp [laws_markIntS.l0] at h
 | k + 1 => by
  have ih0 := laws_markIntS.mono_l k
  ·intro y0 y1 y2
   unfold laws_markIntS.l0
   repeat' first
   | (with_reducible exact ih0 _ _ _)
   | (with_reducible exact LeO.refl _)
   | (with_reducible exact LeO.none _)
   | (with_reducible refine LeO.ite ?_ ?_)
   | (with_reducible refine LeO.bind ?_ (fun _ => ?_))
   | exact ih0 _ _ _
   | exact LeO.none _
   | refine LeO.ite ?_ ?_
   | refine LeO.bind ?_ (fun _ => ?_)
theorem laws_markIntS.mono : ∀ a0 a1 k, LeO (laws_markIntS.f k a0 a1) (laws_markIntS.f (k + 1) a0 a1) := by
 intro a0 a1 k
 have ih0 := laws_markIntS.mono_l k
 unfold laws_markIntS.f
 repeat' first
   | (with_reducible exact ih0 _ _ _)
   | (with_reducible exact LeO.refl _)
   | (with_reducible exact LeO.none _)
   | (with_reducible refine LeO.ite ?_ ?_)
   | (with_reducible refine LeO.bind ?_ (fun _ => ?_))
   | exact ih0 _ _ _
   | exact LeO.none _
   | refine LeO.ite ?_ ?_
   | refine LeO.bind ?_ (fun _ => ?_)
set_option maxHeartbeats 8000000 in
set_option maxRecDepth 100000 in
theorem laws_markIntS.calls (k : Nat) (P0_ : Nat → Prop) (u9000_ : Value) (l0 : List Int) (a1 : Int) (r1 : Int) (r2 : List Int) (w0 w : World) (hB : Below w0.heap.size w0 w) (ho0 : Kd.R (Kd.int .i64) 3 w w0.heap.size P0_ u9000_ l0) (h : laws_markIntS.f k l0 a1 = some (r1, r2)) :
  Calls Try.prog 20 #[u9000_, .int .i64 a1] w fun e w' => e = .returned (.int .i64 r1) ∧ Kd.R (Kd.int .i64) 3 w' w0.heap.size (fun k_ => (P0_ k_ ∨ w.heap.size ≤ k_)) u9000_ r2 ∧ Below w0.heap.size w0 w' ∧ Kept w w' (fun k_ => P0_ k_) := by
 have HO0 := Aside0.mk (show Kd.R (Kd.int .i64) 3 w w0.heap.size (fun k_ => (P0_ k_ ∨ w.heap.size ≤ k_)) u9000_ l0 from Kd.R_mono ho0 (fun k_ hk => (.inl hk)))
 have HK := Aside0.mk (Kept.refl w (fun k_ => P0_ k_))
 have HW0 := Aside0.mk hB.size
 have HB := Aside0.mk hB
 clear hB
 have H : (laws_markIntS.l0 k l0 a1 0) = some (r1, r2) := h
 clear h
 have H' := Aside0.mk H
 clear H
 go_enter Try.func20, Try.ntmps20
 go_wp2
 go_loopg [1, 5] k (fun kq v1 v5 w' => ∃ (x0_1 : List Int) (x1_1 : Int) (x5_1 : Int), v1 = .int .i64 x1_1 ∧ v5 = .int .i64 x5_1 ∧ Aside0 (laws_markIntS.l0 kq x0_1 x1_1 x5_1 = some (r1, r2)) ∧ Aside0 (kq ≤ k) ∧ Aside0 (Kd.R (Kd.int .i64) 3 w' w0.heap.size (fun k_ => (P0_ k_ ∨ w.heap.size ≤ k_)) u9000_ x0_1) ∧ Aside0 (Kept w w' (fun k_ => P0_ k_)) ∧ Aside0 (Below w0.heap.size w0 w'))
 case atStart => exact ⟨(l0), (a1), (0), (by first | rfl | (simp; done) | (simp [*]; done)), (by first | rfl | (simp; done) | (simp [*]; done)), H', ⟨Nat.le_refl _⟩, ⟨by (with_reducible repeat (first | apply Kd.R_alloc | apply Kd.R_drewN | apply Kd.R_drew)); exact HO0.out⟩, ⟨by repeat (first | (with_reducible first | exact HK.out | apply Kept.alloc | apply Kept.drewN | apply Kept.drew) | exact HK.out)⟩, ⟨by repeat (first | (with_reducible first | exact HB.out | apply below_alloc | apply pw_below_drewN | apply below_drew1) | exact HB.out)⟩⟩
 case round =>
  clear H'
  try clear c2
  try clear p2
  obtain ⟨x0_1, x1_1, x5_1, rfl, rfl, HA, HK1, HO_0, HK, HB⟩ := hrel
  cases gk with
  | zero => exact absurd HA.out (by simp [laws_markIntS.l0])
  | succ k1 =>
   have H := HA.out
   clear HA
   simp only [laws_markIntS.l0] at H
   by_cases c3 : x5_1 < (x0_1.length : Int)
   ·rw [if_pos c3] at H
    have c3b0 : decide (x5_1 < (x0_1.length : Int)) = true := decide_eq_true c3
    clear c3
    by_cases c4 : 0 ≤ x5_1
    ·rw [if_pos c4] at H
     have c4b0 : decide (0 ≤ x5_1) = true := decide_eq_true c4
     clear c4
     obtain ⟨y178, hy178⟩ : ∃ y_ : List Int, y_ = (x0_1.set (x5_1 : Int).toNat x1_1) := ⟨_, rfl⟩
     replace H : (laws_markIntS.l0 k1 y178 (wrap64 (x1_1 + 1)) (wrap64 (x5_1 + 1))) = some (r1, r2) := by first | (rw [hy178]; with_reducible exact H) | (have H2_ := (Option.bind_some _ _).symm.trans H; rw [hy178]; with_reducible exact H2_) | (have H2_ := (Option.bind_some _ _).symm.trans H; with_reducible exact H2_) | with_reducible exact H | (rw [hy178]; exact H) | exact H
     have Ny178 := Aside0.mk hy178
     clear hy178
     have H' := Aside0.mk H
     clear H
     obtain ⟨Ao6, co6, eo6⟩ := Kd.R_slice HO_0.out
     subst eo6
     have p5 : 0 ≤ (x5_1 : Int) := of_decide_eq_true (by first | (with_reducible assumption) | assumption)
     have q5 : (x5_1 : Int) < ((x0_1.length : Int) : Int) := of_decide_eq_true (by first | (with_reducible assumption) | assumption)
     obtain ⟨go5, co5, eo5, gb5, gl5, cl5, HG5⟩ := Kd.R_form HO_0.out (by omega)
     (first | cases eo5 | (injection eo5 with ea_ en_ ec_; (first | subst ea_ | (injection ea_ with ea_; subst ea_)); subst ec_; clear en_))
     have GB5 := Aside0.mk gb5
     have GG5 := Aside0.mk HG5
     clear gb5 gl5 HG5
     have HMgo5 := Aside0.mk (show (P0_ go5 ∨ w.heap.size ≤ go5) from (HO_0.out.1 _ rfl))
     obtain ⟨hx5_0, hf5_0⟩ := Kd.R_celln 0 HO_0.out (x5_1 : Int) p5 q5
     replace p5 := eq_true p5
     replace q5 := eq_true q5
     have HP7 := Kd.R_putg HO_0.out (x5_1 : Int) x1_1
     go_wp2_with (first | ((with_reducible refine gate_store (t := 3) (p := 15) rfl ?_); refine store_event (t := 3) (p := 15) (v := ?vo_w8) (w1 := (wr.setCell ⟨go5, (x5_1 : Int).toNat, none⟩ (.int .i64 x1_1))) ?hg ?ho ?hn ?hr ?_; (case ho => rfl); (case hg => rfl); (case hn => rfl); (case hr => first | (go_simp; done) | (go_simp; rfl)); intro w8 hw; have hg : wr.grownBy w8 (some go5) := (by rw [hw]; exact HP7.2); have hp_ : Kd.R (Kd.int .i64) 3 w8 w0.heap.size (fun k_ => (P0_ k_ ∨ w.heap.size ≤ k_)) (.slice (some ⟨go5, 0, none⟩) x0_1.length co6) y178 := (by rw [hw, Ny178.out]; exact HP7.1); clear HP7; have n0_ := Aside0.mk (hp_); have n1_ := Aside0.mk ((by rw [hw]; exact below_set (HB.out) GB5.out : Below w0.heap.size w0 w8)); have n2_ := Aside0.mk (Kept.of_grown (S := (fun k_ => P0_ k_)) hg (by repeat (first | (with_reducible first | exact HK.out | apply Kept.alloc | apply Kept.drewN | apply Kept.drew) | exact HK.out)) (fun k_ e_ => (HO_0.out.1 k_ e_))); clear HO_0; clear HB; clear HK; have HO_0 := n0_; have HB := n1_; have HK := n2_; clear n0_ n1_ n2_; clear hg hw hp_))
     go_roundg k1
     case measure => have := HK1.out; omega
     case rel => exact ⟨(y178), (wrap64 (x1_1 + 1)), (wrap64 (x5_1 + 1)), (by first | rfl | (simp; done) | (simp [*]; done)), (by first | rfl | (simp; done) | (simp [*]; done)), H', ⟨by have := HK1.out; omega⟩, ⟨by (with_reducible repeat (first | apply Kd.R_alloc | apply Kd.R_drewN | apply Kd.R_drew)); exact HO_0.out⟩, ⟨by repeat (first | (with_reducible first | exact HK.out | apply Kept.alloc | apply Kept.drewN | apply Kept.drew) | exact HK.out)⟩, ⟨by repeat (first | (with_reducible first | exact HB.out | apply below_alloc | apply pw_below_drewN | apply below_drew1) | exact HB.out)⟩⟩
    ·rw [if_neg c4] at H
     exact absurd H (by simp)
   ·rw [if_neg c3] at H
    have c3b0 : decide (x5_1 < (x0_1.length : Int)) = false := decide_eq_false c3
    clear c3
    simp only [Option.some.injEq, Prod.mk.injEq] at H
    obtain ⟨rfl, rfl⟩ := H
    obtain ⟨Ao9, co9, eo9⟩ := Kd.R_slice HO_0.out
    subst eo9
    go_wp2
    go_ret
    exact ⟨by first | rfl | (simp [errW_none, errW_some] <;> rfl) | (simp [*, errW_none, errW_some] <;> rfl), by (with_reducible repeat (first | apply Kd.R_alloc | apply Kd.R_drewN | apply Kd.R_drew)); exact HO_0.out, by repeat (first | (with_reducible first | exact HB.out | apply below_alloc | apply pw_below_drewN | apply below_drew1) | exact HB.out), by repeat (first | (with_reducible first | exact HK.out | apply Kept.alloc | apply Kept.drewN | apply Kept.drew) | exact HK.out)⟩

end Go.Proofs.Ytdcdkckpmkfjdaa.P

namespace Go.Proofs.Ytdcdkckpmkfjdaa.P
open Go.RowKit Go.Proofs.YtdcdkckpmkfjdaaW.PrintWords Go.Proofs.YtdcdkckpmkfjdaaW.PrintLast Go.Proofs.YtdcdkckpmkfjdaaW.PrintMore
attribute [local go_sem] max2_int min2_int max_two min_two max_three min_three max_four min_four   -- for this text's walks alone
set_option linter.unusedVariables false
set_option linter.unusedSimpArgs false

def laws_heldIntS.l0 : Nat → List Int → Int → Int → Option (Int)
 | 0, _, _, _ => none
 | k + 1, x0, x1, x5 => if x5 < (x0.length : Int) then (if 0 ≤ x5 then (if (rd x0 x5) = x1 then (laws_heldIntS.l0 k x0 (wrap64 (x1 + 1)) (wrap64 (x5 + 1))) else (some (-1))) else (none)) else (some x1)
def laws_heldIntS.f (k : Nat) (l0 : List Int) (a1 : Int) : Option (Int) := laws_heldIntS.l0 k l0 a1 0
theorem laws_heldIntS.mono_l : ∀ k, (∀ y0 y1 y2, LeO (laws_heldIntS.l0 k y0 y1 y2) (laws_heldIntS.l0 (k + 1) y0 y1 y2))
 | 0 => fun _ _ _ r h => by simp [laws_heldIntS.l0] at h
 | k + 1 => by
  have ih0 := laws_heldIntS.mono_l k
  ·intro y0 y1 y2
   unfold laws_heldIntS.l0
   repeat' first
   | (with_reducible exact ih0 _ _ _)
   | (with_reducible exact LeO.refl _)
   | (with_reducible exact LeO.none _)
   | (with_reducible refine LeO.ite ?_ ?_)
   | (with_reducible refine LeO.bind ?_ (fun _ => ?_))
   | exact ih0 _ _ _
   | exact LeO.none _
   | refine LeO.ite ?_ ?_
   | refine LeO.bind ?_ (fun _ => ?_)
theorem laws_heldIntS.mono : ∀ a0 a1 k, LeO (laws_heldIntS.f k a0 a1) (laws_heldIntS.f (k + 1) a0 a1) := by
 intro a0 a1 k
 have ih0 := laws_heldIntS.mono_l k
 unfold laws_heldIntS.f
 repeat' first
   | (with_reducible exact ih0 _ _ _)
   | (with_reducible exact LeO.refl _)
   | (with_reducible exact LeO.none _)
   | (with_reducible refine LeO.ite ?_ ?_)
   | (with_reducible refine LeO.bind ?_ (fun _ => ?_))
   | exact ih0 _ _ _
   | exact LeO.none _
   | refine LeO.ite ?_ ?_
   | refine LeO.bind ?_ (fun _ => ?_)
set_option maxHeartbeats 8000000 in
set_option maxRecDepth 100000 in
theorem laws_heldIntS.calls (k : Nat) (A0 : Option Addr) (c0 : Nat) (l0 : List Int) (a1 : Int) (r : Int) (w : World) (hr0 : Kd.C (Kd.int .i64) w A0 l0.length l0) (hc0 : l0.length ≤ c0) (h : laws_heldIntS.f k l0 a1 = some r) :
  Calls Try.prog 21 #[.slice A0 l0.length c0, .int .i64 a1] w fun e w' => e = .returned (.int .i64 r) ∧ Drawn0 w w' := by
 have HR0 := Aside0.mk hr0
 have HC0 := Aside0.mk hc0
 clear hr0 hc0
 have H : (laws_heldIntS.l0 k l0 a1 0) = some r := h
 clear h
 have H' := Aside0.mk H
 clear H
 go_enter Try.func21, Try.ntmps21
 go_wp2
 go_loopg [1, 5] k (fun kq v1 v5 w' => ∃ (x1_1 : Int) (x5_1 : Int), v1 = .int .i64 x1_1 ∧ v5 = .int .i64 x5_1 ∧ Aside0 (laws_heldIntS.l0 kq l0 x1_1 x5_1 = some r) ∧ Aside0 (kq ≤ k) ∧ Drawn0 w w')
 case atStart => exact ⟨(a1), (0), (by first | rfl | (simp; done) | (simp [*]; done)), (by first | rfl | (simp; done) | (simp [*]; done)), H', ⟨Nat.le_refl _⟩, by repeat (first | exact Drawn0.refl _ | apply Drawn0.step)⟩
 case round =>
  clear H'
  try clear c2
  try clear p2
  obtain ⟨x1_1, x5_1, rfl, rfl, HA, HK1, ⟨m1, rfl⟩⟩ := hrel
  cases gk with
  | zero => exact absurd HA.out (by simp [laws_heldIntS.l0])
  | succ k1 =>
   have H := HA.out
   clear HA
   simp only [laws_heldIntS.l0] at H
   by_cases c3 : x5_1 < (l0.length : Int)
   ·rw [if_pos c3] at H
    have c3b0 : decide (x5_1 < (l0.length : Int)) = true := decide_eq_true c3
    clear c3
    by_cases c4 : 0 ≤ x5_1
    ·rw [if_pos c4] at H
     have c4b0 : decide (0 ≤ x5_1) = true := decide_eq_true c4
     clear c4
     by_cases c5 : (rd l0 x5_1) = x1_1
     ·rw [if_pos c5] at H
      have c5b0 : ((rd l0 x5_1) == x1_1) = true := beq_iff_eq.mpr c5
      have c5b1 : ((rd l0 x5_1) != x1_1) = false := bne_eq_false_iff_eq.mpr c5
      clear c5
      have H' := Aside0.mk H
      clear H
      have p179 : 0 ≤ (x5_1 : Int) := of_decide_eq_true (by first | (with_reducible assumption) | assumption)
      have q179 : x5_1 < (l0.length : Int) := of_decide_eq_true (by first | (with_reducible assumption) | assumption)
      obtain ⟨ad179, e179, hx179_0⟩ := Kd.at_int HR0.out x5_1 p179 q179
      cases e179
      replace p179 := eq_true p179
      replace q179 := eq_true q179
      go_wp2
      go_roundg k1
      case measure => have := HK1.out; omega
      case rel => exact ⟨(wrap64 (x1_1 + 1)), (wrap64 (x5_1 + 1)), (by first | rfl | (simp; done) | (simp [*]; done)), (by first | rfl | (simp; done) | (simp [*]; done)), H', ⟨by have := HK1.out; omega⟩, by repeat (first | exact Drawn0.refl _ | apply Drawn0.step)⟩
     ·rw [if_neg c5] at H
      have c5b0 : ((rd l0 x5_1) == x1_1) = false := beq_eq_false_iff_ne.mpr c5
      have c5b1 : ((rd l0 x5_1) != x1_1) = true := bne_iff_ne.mpr c5
      obtain rfl := Option.some.inj H
      have p179 : 0 ≤ (x5_1 : Int) := of_decide_eq_true (by first | (with_reducible assumption) | assumption)
      have q179 : x5_1 < (l0.length : Int) := of_decide_eq_true (by first | (with_reducible assumption) | assumption)
      obtain ⟨ad179, e179, hx179_0⟩ := Kd.at_int HR0.out x5_1 p179 q179
      cases e179
      replace p179 := eq_true p179
      replace q179 := eq_true q179
      go_wp2
      go_ret
      exact ⟨by first | rfl | (simp; done) | (simp [*]; done), by repeat (first | exact Drawn0.refl _ | apply Drawn0.step)⟩
    ·rw [if_neg c4] at H
     exact absurd H (by simp)
   ·rw [if_neg c3] at H
    have c3b0 : decide (x5_1 < (l0.length : Int)) = false := decide_eq_false c3
    clear c3
    obtain rfl := Option.some.inj H
    go_wp2
    go_ret
    exact ⟨by first | rfl | (simp; done) | (simp [*]; done), by repeat (first | exact Drawn0.refl _ | apply Drawn0.step)⟩

end Go.Proofs.Ytdcdkckpmkfjdaa.P

namespace Go.Proofs.Ytdcdkckpmkfjdaa.L
open Go.RowKit Go.Proofs.Ytdcdkckpmkfjdaa Go.Proofs.Ytdcdkckpmkfjdaa.P Go.Proofs.YtdcdkckpmkfjdaaW.PrintWords Go.Proofs.YtdcdkckpmkfjdaaW.PrintLast Go.Proofs.YtdcdkckpmkfjdaaW.PrintMore

theorem wrapS (i : Nat) (h : i < 9223372036854775807) : wrap64 ((i : Int) + 1) = ((i + 1 : Nat) : Int) := by unfold wrap64; omega
theorem rd_at (l : List Int) (i : Nat) (h : i < l.length) : rd l (i : Int) = l[i] := by simp [rd, List.getD_eq_getElem?_getD, h]
theorem rd1_at (l : List (List Int)) (i : Nat) (h : i < l.length) : rd_L1 l (i : Int) = l[i] := by simp [rd_L1, List.getD_eq_getElem?_getD, h]
theorem Ev.ite_pos {α : Type} {c : Prop} [Decidable c] {a b : Nat → Option α} {r : α} (h : c) (k : Ev a r) : Ev (fun n => if c then a n else b n) r := by
 simp only [if_pos h]; exact k
theorem Ev.ite_neg {α : Type} {c : Prop} [Decidable c] {a b : Nat → Option α} {r : α} (h : ¬ c) (k : Ev b r) : Ev (fun n => if c then a n else b n) r := by
 simp only [if_neg h]; exact k
theorem Ev.some_bind {α β : Type} {o : Option α} {a : α} {f : Nat → α → Option β} {r : β} (h : o = some a) (k : Ev (fun n => f n a) r) : Ev (fun n => o.bind (f n)) r := by
 subst h; simp only [Option.bind_some]; exact k
theorem eqIntS_l0 (l : List Int) (hl : l.length ≤ 17592186044416) : ∀ (d i : Nat), i + d = l.length → Ev (fun k => laws_eqIntS.l0 k l l i) true := by
 intro d
 induction d with
 | zero =>
  intro i hi
  refine Ev.step (fun k => by rw [laws_eqIntS.l0]) ?_
  exact Ev.ite_neg (by omega) (Ev.now _)
 | succ d ih =>
  intro i hi
  refine Ev.step (fun k => by rw [laws_eqIntS.l0]) ?_
  refine Ev.ite_pos (by omega) (Ev.ite_pos (by omega) (Ev.ite_pos (by omega) (Ev.ite_pos rfl ?_)))
  rw [wrapS i (by omega)]
  exact ih (i + 1) (by omega)
/-- Few rows, and short ones. -/
def fewRows (l : List (List Int)) : Prop := l.length ≤ 1048576 ∧ ∀ r ∈ l, r.length ≤ 1048576
theorem fewRows.ok {l : List (List Int)} (h : fewRows l) : rowsOk l := ⟨by have := h.1; omega, fun r hr => by have := h.2 r hr; omega⟩
end Go.Proofs.Ytdcdkckpmkfjdaa.L

namespace Go.Proofs.Ytdcdkckpmkfjdaa.L
open Go.RowKit Go.Proofs.Ytdcdkckpmkfjdaa Go.Proofs.Ytdcdkckpmkfjdaa.P Go.Proofs.YtdcdkckpmkfjdaaW.PrintWords Go.Proofs.YtdcdkckpmkfjdaaW.PrintLast Go.Proofs.YtdcdkckpmkfjdaaW.PrintMore
set_option linter.unusedVariables false

/-- A row numbered from n on. -/
def numR (len : Nat) (n : Nat) : List Int := (List.range len).map fun i => ((n + i : Nat) : Int)
theorem numR_length (len n : Nat) : (numR len n).length = len := by simp [numR]
theorem numR_at (len n i : Nat) (h : i < len) : rd (numR len n) (i : Int) = ((n + i : Nat) : Int) := by rw [rd_at _ _ (by rw [numR_length]; exact h)]; simp [numR]
/-- A row of which the first i are numbered. -/
def numS (l : List Int) (n i : Nat) : List Int := numR i n ++ l.drop i
theorem numS_length (l : List Int) (n i : Nat) (h : i ≤ l.length) : (numS l n i).length = l.length := by simp [numS, numR_length]; omega
theorem numS_set (l : List Int) (n i : Nat) (h : i < l.length) : (numS l n i).set i ((n + i : Nat) : Int) = numS l n (i + 1) := by
 unfold numS
 rw [List.set_append, if_neg (by rw [numR_length]; omega), numR_length, Nat.sub_self, List.drop_eq_getElem_cons h, List.set_cons_zero]
 simp [numR, List.range_succ]
theorem markIntS_l0 (l : List Int) (n : Nat) (hn : n + l.length ≤ 4611686018427387904) : ∀ (d i : Nat), i + d = l.length → Ev (fun k => laws_markIntS.l0 k (numS l n i) ((n + i : Nat) : Int) i) (((n + l.length : Nat) : Int), numR l.length n) := by
 intro d
 induction d with
 | zero =>
  intro i hi
  refine Ev.step (fun k => by rw [laws_markIntS.l0]) ?_
  rw [numS_length l n i (by omega)]
  have e : i = l.length := by omega
  subst e
  refine Ev.ite_neg (by omega) ?_
  unfold numS
  rw [List.drop_length, List.append_nil]
  exact Ev.now _
 | succ d ih =>
  intro i hi
  refine Ev.step (fun k => by rw [laws_markIntS.l0]) ?_
  rw [numS_length l n i (by omega), Int.toNat_natCast, numS_set l n i (by omega), wrapS (n + i) (by omega), wrapS i (by omega)]
  exact Ev.ite_pos (by omega) (Ev.ite_pos (by omega) (ih (i + 1) (by omega)))
theorem markIntS_ev (l : List Int) (n : Nat) (hn : n + l.length ≤ 4611686018427387904) : Ev (fun k => laws_markIntS.f k l n) (((n + l.length : Nat) : Int), numR l.length n) := by
 have := markIntS_l0 l n hn l.length 0 (by omega)
 simpa [numS, numR, laws_markIntS.f] using this
theorem heldIntS_l0 (len n : Nat) (hn : n + len ≤ 4611686018427387904) : ∀ (d i : Nat), i + d = len → Ev (fun k => laws_heldIntS.l0 k (numR len n) ((n + i : Nat) : Int) i) ((n + len : Nat) : Int) := by
 intro d
 induction d with
 | zero =>
  intro i hi
  refine Ev.step (fun k => by rw [laws_heldIntS.l0]) ?_
  rw [numR_length]
  have e : i = len := by omega
  subst e
  exact Ev.ite_neg (by omega) (Ev.now _)
 | succ d ih =>
  intro i hi
  refine Ev.step (fun k => by rw [laws_heldIntS.l0]) ?_
  rw [numR_length, numR_at len n i (by omega), wrapS (n + i) (by omega), wrapS i (by omega)]
  exact Ev.ite_pos (by omega) (Ev.ite_pos (by omega) (Ev.ite_pos rfl (ih (i + 1) (by omega))))
theorem heldIntS_ev (len n : Nat) (hn : n + len ≤ 4611686018427387904) : Ev (fun k => laws_heldIntS.f k (numR len n) n) ((n + len : Nat) : Int) := heldIntS_l0 len n hn len 0 (by omega)
end Go.Proofs.Ytdcdkckpmkfjdaa.L

namespace Go.Proofs.Ytdcdkckpmkfjdaa.L
open Go.RowKit Go.Proofs.Ytdcdkckpmkfjdaa Go.Proofs.Ytdcdkckpmkfjdaa.P Go.Proofs.YtdcdkckpmkfjdaaW.PrintWords Go.Proofs.YtdcdkckpmkfjdaaW.PrintLast Go.Proofs.YtdcdkckpmkfjdaaW.PrintMore
set_option linter.unusedVariables false

/-- The blocks from a up to b. -/
def Itv (a b : Nat) : Nat → Prop := fun k => a ≤ k ∧ k < b
/-- A table that lies in the blocks from a to b alone. -/
structure Own (B a b : Nat) (w : World) (v : Value) (T : List (List Int)) : Prop where
 s : Kd.S (Kd.slice 3 (Kd.int .i64)) 22 w B (Itv a b) v T
 lo : B ≤ a
 hi : b ≤ w.heap.size
theorem Own.new {B : Nat} {w w' : World} {v : Value} {T : List (List Int)} (h : Kd.S (Kd.slice 3 (Kd.int .i64)) 22 w' w.heap.size (fun _ => True) v T) (hB : B ≤ w.heap.size) : Own B w.heap.size w'.heap.size w' v T :=
 ⟨Kd.S_lower (Kd.S_mono (Kd.S_bound h) (fun _ hk => ⟨hk.2.1, hk.2.2.1⟩)) hB, hB, Nat.le_refl _⟩
theorem Own.below {B a b : Nat} {w w' : World} {v : Value} {T : List (List Int)} (h : Own B a b w v T) (hb : Below w.heap.size w w') : Own B a b w' v T :=
 ⟨Kd.S_kept h.s (Kept.of_below hb (fun _ => False)) (fun _ _ h => h), h.lo, Nat.le_trans h.hi hb.size⟩
theorem Own.kept {B a b c d : Nat} {w w' : World} {v : Value} {T : List (List Int)} (h : Own B a b w v T) (hk : Kept w w' (Itv c d)) (hd : b ≤ c ∨ d ≤ a) : Own B a b w' v T :=
 ⟨Kd.S_kept h.s hk (fun k h1 h2 => by have := h1.1; have := h1.2; have := h2.1; have := h2.2; omega), h.lo, Nat.le_trans h.hi hk.1⟩
theorem Own.slice {B a b : Nat} {w : World} {v : Value} {T : List (List Int)} (h : Own B a b w v T) : ∃ A c, v = .slice A T.length c ∧ T.length ≤ c := by
 obtain ⟨A, c, rfl⟩ := Kd.R_slice (Kd.S_R h.s)
 exact ⟨A, c, rfl, (Kd.R_reads' (Kd.S_R h.s)).2.1⟩
theorem Own.reads {B a b n c : Nat} {A : Option Addr} {w : World} {T : List (List Int)} (h : Own B a b w (.slice A n c) T) : Kd.C (Kd.slice 3 (Kd.int .i64)) w A T.length T := (Kd.R_reads' (Kd.S_R h.s)).2.2
theorem Own.reads' {B a b n c m : Nat} {A : Option Addr} {w : World} {T : List (List Int)} (h : Own B a b w (.slice A n c) T) (e : T.length = m) : Kd.C (Kd.slice 3 (Kd.int .i64)) w A m T := e ▸ h.reads
end Go.Proofs.Ytdcdkckpmkfjdaa.L

namespace Go.Proofs.Ytdcdkckpmkfjdaa.L
open Go.RowKit Go.Proofs.Ytdcdkckpmkfjdaa Go.Proofs.Ytdcdkckpmkfjdaa.P Go.Proofs.YtdcdkckpmkfjdaaW.PrintWords Go.Proofs.YtdcdkckpmkfjdaaW.PrintLast Go.Proofs.YtdcdkckpmkfjdaaW.PrintMore
set_option linter.unusedVariables false

/-- A row as an element, its own elements apart. -/
def apart {α : Type} (e : Nat) (d : Kd α) : Kd (List α) where
 sz := 1
 E := e :: d.E
 K := (Kd.slice e d).K
 M := fun w base ok xs cs => ∃ v, cs = [v] ∧ Kd.S d e w base ok v xs
 K_len := fun h => (Kd.slice e d).K_len h
 K_one := fun h => (Kd.slice e d).K_one h
 K_below := fun hb h => (Kd.slice e d).K_below hb h
 K_of_M := by
  rintro w base ok x cs ⟨v, rfl, h⟩
  exact (Kd.slice e d).K_of_M ⟨v, rfl, Kd.S_R h⟩
 M_mono := by
  rintro w base ok ok' x cs hok ⟨v, rfl, h⟩
  exact ⟨v, rfl, Kd.S_mono h hok⟩
 M_bound := by
  rintro w base ok x cs ⟨v, rfl, h⟩
  exact ⟨v, rfl, Kd.S_bound h⟩
 M_move := by
  rintro w w1 base ok x cs hm ⟨v, rfl, h⟩
  exact ⟨v, rfl, Kd.S_move h hm⟩
 M_lower := by
  rintro w base base' ok x cs hb ⟨v, rfl, h⟩
  exact ⟨v, rfl, Kd.S_lower h hb⟩
/-- Tables whose rows are apart, as elements. -/
def tabK : Kd (List (List Int)) := apart 22 (Kd.slice 3 (Kd.int .i64))
theorem tab_C {w : World} {A : Option Addr} {n : Nat} {L : List (List (List Int))} (h : tabK.C w A n L) : Kd.C (Kd.slice 22 (Kd.slice 3 (Kd.int .i64))) w A n L := Kd.C_imp (d := tabK) (d' := Kd.slice 22 (Kd.slice 3 (Kd.int .i64))) rfl (fun _ _ _ h => h) h

end Go.Proofs.Ytdcdkckpmkfjdaa.L

namespace Go.Proofs.Ytdcdkckpmkfjdaa.L
open Go.RowKit Go.Proofs.Ytdcdkckpmkfjdaa Go.Proofs.Ytdcdkckpmkfjdaa.P Go.Proofs.YtdcdkckpmkfjdaaW.PrintWords Go.Proofs.YtdcdkckpmkfjdaaW.PrintLast Go.Proofs.YtdcdkckpmkfjdaaW.PrintMore
set_option linter.unusedVariables false

/-- A list of tables that lies in the blocks from a to b alone. -/
structure OwnM (B a b : Nat) (w : World) (v : Value) (T : List (List (List Int))) : Prop where
 s : Kd.S tabK 36 w B (Itv a b) v T
 lo : B ≤ a
 hi : b ≤ w.heap.size
theorem OwnM.new {B : Nat} {w w' : World} {v : Value} {T : List (List (List Int))} (h : Kd.S tabK 36 w' w.heap.size (fun _ => True) v T) (hB : B ≤ w.heap.size) : OwnM B w.heap.size w'.heap.size w' v T :=
 ⟨Kd.S_lower (Kd.S_mono (Kd.S_bound h) (fun _ hk => ⟨hk.2.1, hk.2.2.1⟩)) hB, hB, Nat.le_refl _⟩
theorem OwnM.below {B a b : Nat} {w w' : World} {v : Value} {T : List (List (List Int))} (h : OwnM B a b w v T) (hb : Below w.heap.size w w') : OwnM B a b w' v T :=
 ⟨Kd.S_kept h.s (Kept.of_below hb (fun _ => False)) (fun _ _ h => h), h.lo, Nat.le_trans h.hi hb.size⟩
theorem OwnM.kept {B a b c d : Nat} {w w' : World} {v : Value} {T : List (List (List Int))} (h : OwnM B a b w v T) (hk : Kept w w' (Itv c d)) (hd : b ≤ c ∨ d ≤ a) : OwnM B a b w' v T :=
 ⟨Kd.S_kept h.s hk (fun k h1 h2 => by have := h1.1; have := h1.2; have := h2.1; have := h2.2; omega), h.lo, Nat.le_trans h.hi hk.1⟩
theorem OwnM.slice {B a b : Nat} {w : World} {v : Value} {T : List (List (List Int))} (h : OwnM B a b w v T) : ∃ A c, v = .slice A T.length c ∧ T.length ≤ c := by
 obtain ⟨A, c, rfl⟩ := Kd.R_slice (Kd.S_R h.s)
 exact ⟨A, c, rfl, (Kd.R_reads' (Kd.S_R h.s)).2.1⟩
theorem OwnM.reads {B a b n c : Nat} {A : Option Addr} {w : World} {T : List (List (List Int))} (h : OwnM B a b w (.slice A n c) T) : Kd.C (Kd.slice 22 (Kd.slice 3 (Kd.int .i64))) w A T.length T := tab_C (Kd.R_reads' (Kd.S_R h.s)).2.2
theorem OwnM.reads' {B a b n c m : Nat} {A : Option Addr} {w : World} {T : List (List (List Int))} (h : OwnM B a b w (.slice A n c) T) (e : T.length = m) : Kd.C (Kd.slice 22 (Kd.slice 3 (Kd.int .i64))) w A m T := e ▸ h.reads
/-- What is only read, and is elder than N. -/
structure Old {α : Type} (d : Kd α) (N : Nat) (w : World) (A : Option Addr) (T : List α) : Prop where
 f : Kd.F d w (fun k => k < N) A T.length T
 hi : N ≤ w.heap.size
theorem Old.new {α : Type} {d : Kd α} (hd : Kd.Heap d) {w : World} {A : Option Addr} {T : List α} (h : d.C w A T.length T) : Old d w.heap.size w A T := ⟨Kd.C_F hd h, Nat.le_refl _⟩
theorem Old.below {α : Type} {d : Kd α} {N : Nat} {w w' : World} {A : Option Addr} {T : List α} (h : Old d N w A T) (hb : Below w.heap.size w w') : Old d N w' A T := ⟨Kd.F_below h.f hb, Nat.le_trans h.hi hb.size⟩
theorem Old.kept {α : Type} {d : Kd α} {N a b : Nat} {w w' : World} {A : Option Addr} {T : List α} (h : Old d N w A T) (hk : Kept w w' (Itv a b)) (ha : N ≤ a) : Old d N w' A T := ⟨Kd.F_kept h.f hk (fun k hk h2 => by have := h2.1; omega), Nat.le_trans h.hi hk.1⟩
theorem Old.reads {α : Type} {d : Kd α} {N : Nat} {w : World} {A : Option Addr} {T : List α} (h : Old d N w A T) : d.C w A T.length T := Kd.F_now h.f
/-- A value that is only read comes back, and whether it counts. -/
def RetC {α : Type} (d : Kd α) (w : World) (T : List α) (b : Bool) (e : Ending) (w' : World) : Prop := ∃ A c, e = .returned (.tuple #[.slice A T.length c, .bool b]) ∧ T.length ≤ c ∧ d.C w' A T.length T ∧ Below w.heap.size w w'
def RetTR (w : World) (T : List Int) (b : Bool) (e : Ending) (w' : World) : Prop := ∃ v0_ : Value, e = .returned (.tuple #[v0_, .bool b]) ∧ Kd.R (Kd.int .i64) 3 w' w.heap.size (fun _ => True) v0_ T ∧ Below w.heap.size w w'
theorem RetC.of_N {α : Type} {d : Kd α} {w : World} {P : Nat → Prop} {T : List α} {b : Bool} {eT : Nat} {e : Ending} {w' : World} (h : ∃ v0_ : Value, e = .returned (.tuple #[v0_, .bool b]) ∧ Kd.N d eT w' w.heap.size P v0_ T ∧ Below w.heap.size w w') : RetC d w T b e w' := by
 obtain ⟨v, rfl, hN, hb⟩ := h
 obtain ⟨A, c, rfl⟩ := Kd.N_slice hN
 have := Kd.N_reads' hN
 exact ⟨A, c, rfl, this.2.1, this.2.2, hb⟩
theorem RetC.of_R {α : Type} {d : Kd α} {w : World} {P : Nat → Prop} {T : List α} {b : Bool} {eT : Nat} {e : Ending} {w' : World} (h : ∃ v0_ : Value, e = .returned (.tuple #[v0_, .bool b]) ∧ Kd.R d eT w' w.heap.size P v0_ T ∧ Below w.heap.size w w') : RetC d w T b e w' := by
 obtain ⟨v, rfl, hN, hb⟩ := h
 obtain ⟨A, c, rfl⟩ := Kd.R_slice hN
 have := Kd.R_reads' hN
 exact ⟨A, c, rfl, this.2.1, this.2.2, hb⟩
end Go.Proofs.Ytdcdkckpmkfjdaa.L

namespace Go.Proofs.Ytdcdkckpmkfjdaa.L
open Go.RowKit Go.Proofs.Ytdcdkckpmkfjdaa Go.Proofs.Ytdcdkckpmkfjdaa.P Go.Proofs.YtdcdkckpmkfjdaaW.PrintWords Go.Proofs.YtdcdkckpmkfjdaaW.PrintLast Go.Proofs.YtdcdkckpmkfjdaaW.PrintMore
set_option linter.unusedVariables false

/-- A row that lies in the blocks from a to b alone. -/
structure OwnR (B a b : Nat) (w : World) (v : Value) (T : List Int) : Prop where
 s : Kd.R (Kd.int .i64) 3 w B (Itv a b) v T
 lo : B ≤ a
 hi : b ≤ w.heap.size
theorem OwnR.new {B : Nat} {w w' : World} {v : Value} {T : List Int} (h : Kd.R (Kd.int .i64) 3 w' w.heap.size (fun _ => True) v T) (hB : B ≤ w.heap.size) : OwnR B w.heap.size w'.heap.size w' v T :=
 ⟨Kd.R_lower (Kd.R_mono (Kd.R_bound h) (fun _ hk => ⟨hk.2.1, hk.2.2.1⟩)) hB, hB, Nat.le_refl _⟩
theorem OwnR.below {B a b : Nat} {w w' : World} {v : Value} {T : List Int} (h : OwnR B a b w v T) (hb : Below w.heap.size w w') : OwnR B a b w' v T :=
 ⟨Kd.R_kept h.s (Kept.of_below hb (fun _ => False)) (fun _ _ h => h), h.lo, Nat.le_trans h.hi hb.size⟩
theorem OwnR.kept {B a b c d : Nat} {w w' : World} {v : Value} {T : List Int} (h : OwnR B a b w v T) (hk : Kept w w' (Itv c d)) (hd : b ≤ c ∨ d ≤ a) : OwnR B a b w' v T :=
 ⟨Kd.R_kept h.s hk (fun k h1 h2 => by have := h1.1; have := h1.2; have := h2.1; have := h2.2; omega), h.lo, Nat.le_trans h.hi hk.1⟩
theorem OwnR.slice {B a b : Nat} {w : World} {v : Value} {T : List Int} (h : OwnR B a b w v T) : ∃ A c, v = .slice A T.length c ∧ T.length ≤ c := by
 obtain ⟨A, c, rfl⟩ := Kd.R_slice h.s
 exact ⟨A, c, rfl, (Kd.R_reads' h.s).2.1⟩
theorem OwnR.reads {B a b n c : Nat} {A : Option Addr} {w : World} {T : List Int} (h : OwnR B a b w (.slice A n c) T) : Kd.C (Kd.int .i64) w A T.length T := (Kd.R_reads' h.s).2.2
theorem OwnR.reads' {B a b n c m : Nat} {A : Option Addr} {w : World} {T : List Int} (h : OwnR B a b w (.slice A n c) T) (e : T.length = m) : Kd.C (Kd.int .i64) w A m T := e ▸ h.reads
/-- Marking. -/
theorem mark_ownR {B a b : Nat} {v : Value} {T : List Int} {W w : World} (hW : W.heap.size = B) (hB : Below B W w) (h : OwnR B a b w v T) (hf : T.length ≤ 1048576) :
  Calls Try.prog 20 #[v, .int .i64 1] w fun e w' => e = .returned (.int .i64 (1 + T.length : Nat)) ∧ OwnR B a b w' v (numR T.length 1) ∧ Below B W w' ∧ Kept w w' (Itv a b) := by
 subst hW
 obtain ⟨k, hk⟩ := (markIntS_ev T 1 (by omega)).rounds
 refine (laws_markIntS.calls k (Itv a b) v T (1 : Nat) _ _ W w hB h.s hk).mono ?_
 rintro e w' ⟨h1, h2, h3, h4⟩
 exact ⟨h1, ⟨Kd.R_flat (fun h => h) h2 (fun k hk _ => h.s.1 k hk), h.lo, Nat.le_trans h.hi h4.1⟩, h3, h4⟩
theorem eqIntS_ev (l : List Int) (hl : l.length ≤ 1048576) : Ev (fun k => laws_eqIntS.f k l l) true := by
 unfold laws_eqIntS.f
 exact Ev.ite_pos rfl (eqIntS_l0 l (by omega) l.length 0 (by omega))
end Go.Proofs.Ytdcdkckpmkfjdaa.L

namespace Go.Proofs.Ytdcdkckpmkfjdaa.Law
open Go.RowKit Go.Proofs.Ytdcdkckpmkfjdaa Go.Proofs.Ytdcdkckpmkfjdaa.P Go.Proofs.Ytdcdkckpmkfjdaa.L Go.Proofs.YtdcdkckpmkfjdaaW.PrintWords Go.Proofs.YtdcdkckpmkfjdaaW.PrintLast Go.Proofs.YtdcdkckpmkfjdaaW.PrintMore
set_option linter.unusedVariables false
set_option linter.unusedSimpArgs false

set_option maxHeartbeats 8000000 in
set_option maxRecDepth 100000 in
theorem lawInversionTable (n : Int) (r : List Int) (b : Bool) (W : World) (hr : r.length ≤ 1048576)
  (hspec : ∀ W' : World, Calls Try.prog 22 #[.int .i64 n] W' (RetC (Kd.int .i64) W' r b))
  (himpl : ∀ W' : World, Calls Try.prog 23 #[.int .i64 n] W' (RetTR W' r b)) :
  Calls Try.prog 4 #[.int .i64 n] W fun e w' => e = .returned (.bool true) ∧ Below W.heap.size W w' := by
 have HSP := Aside0.mk hspec
 have HIM := Aside0.mk himpl
 have HB := Aside0.mk (Below.refl W.heap.size W)
 obtain ⟨kr, hkr⟩ := (eqIntS_ev r hr).rounds
 obtain ⟨kh, hkh⟩ := (heldIntS_ev r.length 1 (by omega)).rounds
 have HER := Aside0.mk (fun W' A0 c0 A1 c1 h0 g0 h1 g1 => laws_eqIntS.calls kr A0 c0 r A1 c1 r true W' h0 g0 h1 g1 hkr)
 have HHE := Aside0.mk (fun W' A0 c0 h0 g0 => laws_heldIntS.calls kh A0 c0 (numR r.length 1) 1 ((1 + r.length) : Nat) W' h0 g0 hkh)
 have HMG := Aside0.mk (fun (a b : Nat) (v : Value) (w : World) (hB : Below W.heap.size W w) (ho : OwnR W.heap.size a b w v r) => mark_ownR rfl hB ho hr)
 have hnr : ¬ (((1 + r.length) : Nat) : Int) < 0 := by omega
 have hml : (numR r.length 1).length = r.length := numR_length _ _
 obtain ⟨nr, hnre⟩ : ∃ n, n = (1 + r.length) := ⟨_, rfl⟩
 rw [← hnre] at HMG HHE hnr
 rw [hml] at HHE
 obtain ⟨mr, hmr⟩ : ∃ m, m = (numR r.length 1) := ⟨_, rfl⟩
 rw [← hmr] at HMG HHE hml
 have HML := Aside0.mk hml
 clear hr hspec himpl hkr hkh hnre hmr hml
 go_enter Try.func4, Try.ntmps4
 go_wp2_with (first
  | (go_at_call 22; refine (HSP.out _).mono ?_; rintro e w1 ⟨Aw, cw, rfl, hcw, hC, hb⟩; have HW := Aside0.mk (Old.new (Kd.heap_int .i64) hC); have HWc := Aside0.mk hcw; (have n_ := Aside0.mk (below_step HB.out hb)); clear HB; have HB := n_; clear hb hC hcw)
  | (go_at_call 23; have hg_ := HG; clear hg_; refine (HIM.out _).mono ?_; rintro e w1 ⟨v, rfl, hS, hb⟩; have ho := OwnR.new hS HB.out.size; clear hS; obtain ⟨Ah, ch, rfl, hch⟩ := ho.slice; (try (have n_ := Aside0.mk (HW.out.below hb); clear HW; have HW := n_)); (try (have n_ := Aside0.mk (HG.out.below hb); clear HG; have HG := n_)); (try (have n_ := Aside0.mk (HG1.out.below hb); clear HG1; have HG1 := n_)); (have n_ := Aside0.mk (below_step HB.out hb)); clear HB; have HB := n_; clear hb; have HG1 := Aside0.mk ho; have HG1c := Aside0.mk hch; clear ho hch)
  | (go_at_call 23; refine (HIM.out _).mono ?_; rintro e w1 ⟨v, rfl, hS, hb⟩; have ho := OwnR.new hS HB.out.size; clear hS; obtain ⟨Ag, cg, rfl, hcg⟩ := ho.slice; have HD13 := Aside0.mk HW.out.hi; (try (have n_ := Aside0.mk (HW.out.below hb); clear HW; have HW := n_)); (try (have n_ := Aside0.mk (HG.out.below hb); clear HG; have HG := n_)); (try (have n_ := Aside0.mk (HG1.out.below hb); clear HG1; have HG1 := n_)); (have n_ := Aside0.mk (below_step HB.out hb)); clear HB; have HB := n_; clear hb; have HG := Aside0.mk ho; have HGc := Aside0.mk hcg; clear ho hcg)
  | (go_at_call 19; (first | (with_reducible refine (HER.out _ _ _ _ _ HG.out.reads HGc.out HW.out.reads HWc.out).mono ?_) | (with_reducible refine (HER.out _ _ _ _ _ HG1.out.reads HG1c.out HW.out.reads HWc.out).mono ?_)); rintro e w1 ⟨rfl, hd⟩; have hb := hd.below; clear hd; (try (have n_ := Aside0.mk (HW.out.below hb); clear HW; have HW := n_)); (try (have n_ := Aside0.mk (HG.out.below hb); clear HG; have HG := n_)); (try (have n_ := Aside0.mk (HG1.out.below hb); clear HG1; have HG1 := n_)); (have n_ := Aside0.mk (below_step HB.out hb)); clear HB; have HB := n_; clear hb)
  | (go_at_call 20; (with_reducible refine (HMG.out _ _ _ _ HB.out HG.out).mono ?_); rintro e w1 ⟨rfl, ho, hb, hk⟩; have n1_ := Aside0.mk (HW.out.kept hk HD13.out); clear HW HG HB hk; have HW := n1_; have HG := Aside0.mk ho; have HB := Aside0.mk hb; clear n1_ hb ho)
  | (go_at_call 21; (with_reducible refine (HHE.out _ _ _ (HG.out.reads' HML.out) HGc.out).mono ?_); rintro e w1 ⟨rfl, hd⟩; have hb := hd.below; clear hd; (try (have n_ := Aside0.mk (HW.out.below hb); clear HW; have HW := n_)); (try (have n_ := Aside0.mk (HG.out.below hb); clear HG; have HG := n_)); (try (have n_ := Aside0.mk (HG1.out.below hb); clear HG1; have HG1 := n_)); (have n_ := Aside0.mk (below_step HB.out hb)); clear HB; have HB := n_; clear hb))
 go_ret
 exact ⟨rfl, HB.out⟩
end Go.Proofs.Ytdcdkckpmkfjdaa.Law

namespace Go.Proofs.Ytdcdkckpmkfjdaa.P
open Go.RowKit Go.Proofs.YtdcdkckpmkfjdaaW.PrintWords Go.Proofs.YtdcdkckpmkfjdaaW.PrintLast Go.Proofs.YtdcdkckpmkfjdaaW.PrintMore
attribute [local go_sem] max2_int min2_int max_two min_two max_three min_three max_four min_four   -- for this text's walks alone
set_option linter.unusedVariables false
set_option linter.unusedSimpArgs false

def spec_l1In.f (a0 : Int) (a1 : Int) (a2 : Int) : Option (Bool) := if a0 ≥ a1 then (some (decide (a0 ≤ a2))) else (some false)
set_option maxHeartbeats 8000000 in
set_option maxRecDepth 100000 in
theorem spec_l1In.calls (a0 : Int) (a1 : Int) (a2 : Int) (r : Bool) (w : World) (h : spec_l1In.f a0 a1 a2 = some r) :
  Calls Try.prog 99 #[.int .i64 a0, .int .i64 a1, .int .i64 a2] w fun e w' => e = .returned (.bool r) ∧ Drawn0 w w' := by
 have H : (if a0 ≥ a1 then (some (decide (a0 ≤ a2))) else (some false)) = some r := h
 clear h
 by_cases c4 : a0 ≥ a1
 ·rw [if_pos c4] at H
  have c4b0 : decide (a1 ≤ a0) = true := decide_eq_true c4
  clear c4
  obtain rfl := Option.some.inj H
  go_enter Try.func99, Try.ntmps99
  go_wp2
  go_ret
  exact ⟨by first | rfl | (simp; done) | (simp [*]; done), by repeat (first | exact Drawn0.refl _ | apply Drawn0.step)⟩
 ·rw [if_neg c4] at H
  have c4b0 : decide (a1 ≤ a0) = false := decide_eq_false c4
  clear c4
  obtain rfl := Option.some.inj H
  go_enter Try.func99, Try.ntmps99
  go_wp2
  go_ret
  exact ⟨by first | rfl | (simp; done) | (simp [*]; done), by repeat (first | exact Drawn0.refl _ | apply Drawn0.step)⟩

end Go.Proofs.Ytdcdkckpmkfjdaa.P

namespace Go.Proofs.Ytdcdkckpmkfjdaa.P
open Go.RowKit Go.Proofs.YtdcdkckpmkfjdaaW.PrintWords Go.Proofs.YtdcdkckpmkfjdaaW.PrintLast Go.Proofs.YtdcdkckpmkfjdaaW.PrintMore
attribute [local go_sem] max2_int min2_int max_two min_two max_three min_three max_four min_four   -- for this text's walks alone
set_option linter.unusedVariables false
set_option linter.unusedSimpArgs false

def spec_l1All.l0 : Nat → Int → Int → List Int → Int → Int → Option (Bool)
 | 0, _, _, _, _, _ => none
 | k + 1, x1, x2, x9, x10, x11 => if x11 < x10 then (if 0 ≤ x11 then (if x11 < (x9.length : Int) then ((spec_l1In.f (rd x9 x11) x1 x2).bind fun t109 => (if t109 = true then (spec_l1All.l0 k x1 x2 x9 x10 (wrap64 (x11 + 1))) else (some false))) else (none)) else (none)) else (some true)
def spec_l1All.f (k : Nat) (l0 : List Int) (a1 : Int) (a2 : Int) : Option (Bool) := spec_l1All.l0 k a1 a2 l0 (l0.length : Int) 0
theorem spec_l1All.mono_l : ∀ k, (∀ y0 y1 y2 y3 y4, LeO (spec_l1All.l0 k y0 y1 y2 y3 y4) (spec_l1All.l0 (k + 1) y0 y1 y2 y3 y4))
 | 0 => fun _ _ _ _ _ r h => by simp [spec_l1All.l0] at h
 | k + 1 => by
  have ih0 := spec_l1All.mono_l k
  ·intro y0 y1 y2 y3 y4
   unfold spec_l1All.l0
   repeat' first
   | (with_reducible exact ih0 _ _ _ _ _)
   | (with_reducible exact LeO.refl _)
   | (with_reducible exact LeO.none _)
   | (with_reducible refine LeO.ite ?_ ?_)
   | (with_reducible refine LeO.bind ?_ (fun _ => ?_))
   | exact ih0 _ _ _ _ _
   | exact LeO.none _
   | refine LeO.ite ?_ ?_
   | refine LeO.bind ?_ (fun _ => ?_)
theorem spec_l1All.mono : ∀ a0 a1 a2 k, LeO (spec_l1All.f k a0 a1 a2) (spec_l1All.f (k + 1) a0 a1 a2) := by
 intro a0 a1 a2 k
 have ih0 := spec_l1All.mono_l k
 unfold spec_l1All.f
 repeat' first
   | (with_reducible exact ih0 _ _ _ _ _)
   | (with_reducible exact LeO.refl _)
   | (with_reducible exact LeO.none _)
   | (with_reducible refine LeO.ite ?_ ?_)
   | (with_reducible refine LeO.bind ?_ (fun _ => ?_))
   | exact ih0 _ _ _ _ _
   | exact LeO.none _
   | refine LeO.ite ?_ ?_
   | refine LeO.bind ?_ (fun _ => ?_)
set_option maxHeartbeats 8000000 in
set_option maxRecDepth 100000 in
theorem spec_l1All.calls (k : Nat) (A0 : Option Addr) (c0 : Nat) (l0 : List Int) (a1 : Int) (a2 : Int) (r : Bool) (w : World) (hr0 : Kd.C (Kd.int .i64) w A0 l0.length l0) (hc0 : l0.length ≤ c0) (h : spec_l1All.f k l0 a1 a2 = some r) :
  Calls Try.prog 114 #[.slice A0 l0.length c0, .int .i64 a1, .int .i64 a2] w fun e w' => e = .returned (.bool r) ∧ Drawn0 w w' := by
 have HR0 := Aside0.mk hr0
 have HC0 := Aside0.mk hc0
 clear hr0 hc0
 have H : (spec_l1All.l0 k a1 a2 l0 (l0.length : Int) 0) = some r := h
 clear h
 have H' := Aside0.mk H
 clear H
 go_enter Try.func114, Try.ntmps114
 go_wp2
 go_loopg [11] k (fun kq v11 w' => ∃ (x11_1 : Int), v11 = .int .i64 x11_1 ∧ Aside0 (spec_l1All.l0 kq a1 a2 l0 (l0.length : Int) x11_1 = some r) ∧ Aside0 (kq ≤ k) ∧ Drawn0 w w')
 case atStart => exact ⟨(0), (by first | rfl | (simp; done) | (simp [*]; done)), H', ⟨Nat.le_refl _⟩, by repeat (first | exact Drawn0.refl _ | apply Drawn0.step)⟩
 case round =>
  clear H'
  try clear c1
  try clear p2
  obtain ⟨x11_1, rfl, HA, HK1, ⟨m1, rfl⟩⟩ := hrel
  cases gk with
  | zero => exact absurd HA.out (by simp [spec_l1All.l0])
  | succ k1 =>
   have H := HA.out
   clear HA
   simp only [spec_l1All.l0] at H
   by_cases c4 : x11_1 < (l0.length : Int)
   ·rw [if_pos c4] at H
    have c4b0 : decide (x11_1 < (l0.length : Int)) = true := decide_eq_true c4
    clear c4
    by_cases c5 : 0 ≤ x11_1
    ·rw [if_pos c5] at H
     have c5b0 : decide (0 ≤ x11_1) = true := decide_eq_true c5
     clear c5
     by_cases c6 : x11_1 < (l0.length : Int)
     ·rw [if_pos c6] at H
      have c6b0 : decide (x11_1 < (l0.length : Int)) = true := decide_eq_true c6
      clear c6
      replace H := Option.bind_eq_some_iff.mp H
      obtain ⟨t109, A70, H⟩ := H
      replace H : (if t109 = true then (spec_l1All.l0 k1 a1 a2 l0 (l0.length : Int) (wrap64 (x11_1 + 1))) else (some false)) = some r := H
      have A7 := Aside0.mk A70
      clear A70
      by_cases c8 : t109 = true
      ·subst c8
       have H1 : (spec_l1All.l0 k1 a1 a2 l0 (l0.length : Int) (wrap64 (x11_1 + 1))) = some r := by rw [if_pos rfl] at H; exact H
       clear H
       have H := H1
       clear H1
       have H' := Aside0.mk H
       clear H
       have p108 : 0 ≤ (x11_1 : Int) := of_decide_eq_true (by first | (with_reducible assumption) | assumption)
       have q108 : x11_1 < (l0.length : Int) := of_decide_eq_true (by first | (with_reducible assumption) | assumption)
       obtain ⟨ad108, e108, hx108_0⟩ := Kd.at_int HR0.out x11_1 p108 q108
       cases e108
       replace p108 := eq_true p108
       replace q108 := eq_true q108
       go_wp2_with (first | ((with_reducible refine gate_callee (f := 99) rfl ?_); refine goesL_ (some 18) rfl rfl Try.func99 (by kernel_rfl) rfl #[.int .i64 (rd l0 x11_1), .int .i64 a1, .int .i64 a2] rfl (by (try simp only [List.map_toArray, List.map_cons, List.map_nil]); first | done | rfl | (simp only [List.length_drop, List.length_take]; rfl)) ?_; (with_reducible refine (spec_l1In.calls (rd l0 x11_1) a1 a2 true _ A7.out).mono ?_); rintro e w' ⟨rfl, ⟨nd, rfl⟩⟩; refine ⟨_, rfl, ?_⟩))
       go_roundg k1
       case measure => have := HK1.out; omega
       case rel => exact ⟨(wrap64 (x11_1 + 1)), (by first | rfl | (simp; done) | (simp [*]; done)), H', ⟨by have := HK1.out; omega⟩, by repeat (first | exact Drawn0.refl _ | apply Drawn0.step)⟩
      ·replace c8 := Bool.eq_false_iff.mpr c8
       subst c8
       have H1 : (some false) = some r := by rw [if_neg (show ¬ (false = true) by decide)] at H; exact H
       clear H
       have H := H1
       clear H1
       obtain rfl := Option.some.inj H
       have p108 : 0 ≤ (x11_1 : Int) := of_decide_eq_true (by first | (with_reducible assumption) | assumption)
       have q108 : x11_1 < (l0.length : Int) := of_decide_eq_true (by first | (with_reducible assumption) | assumption)
       obtain ⟨ad108, e108, hx108_0⟩ := Kd.at_int HR0.out x11_1 p108 q108
       cases e108
       replace p108 := eq_true p108
       replace q108 := eq_true q108
       go_wp2_with (first | ((with_reducible refine gate_callee (f := 99) rfl ?_); refine goesL_ (some 18) rfl rfl Try.func99 (by kernel_rfl) rfl #[.int .i64 (rd l0 x11_1), .int .i64 a1, .int .i64 a2] rfl (by (try simp only [List.map_toArray, List.map_cons, List.map_nil]); first | done | rfl | (simp only [List.length_drop, List.length_take]; rfl)) ?_; (with_reducible refine (spec_l1In.calls (rd l0 x11_1) a1 a2 false _ A7.out).mono ?_); rintro e w' ⟨rfl, ⟨nd, rfl⟩⟩; refine ⟨_, rfl, ?_⟩))
       go_ret
       exact ⟨by first | rfl | (simp; done) | (simp [*]; done), by repeat (first | exact Drawn0.refl _ | apply Drawn0.step)⟩
     ·rw [if_neg c6] at H
      exact absurd H (by simp)
    ·rw [if_neg c5] at H
     exact absurd H (by simp)
   ·rw [if_neg c4] at H
    have c4b0 : decide (x11_1 < (l0.length : Int)) = false := decide_eq_false c4
    clear c4
    obtain rfl := Option.some.inj H
    go_wp2
    go_ret
    exact ⟨by first | rfl | (simp; done) | (simp [*]; done), by repeat (first | exact Drawn0.refl _ | apply Drawn0.step)⟩

end Go.Proofs.Ytdcdkckpmkfjdaa.P

namespace Go.Proofs.Ytdcdkckpmkfjdaa.P
open Go.RowKit Go.Proofs.YtdcdkckpmkfjdaaW.PrintWords Go.Proofs.YtdcdkckpmkfjdaaW.PrintLast Go.Proofs.YtdcdkckpmkfjdaaW.PrintMore
attribute [local go_sem] max2_int min2_int max_two min_two max_three min_three max_four min_four   -- for this text's walks alone
set_option linter.unusedVariables false
set_option linter.unusedSimpArgs false

mutual
def spec_dpRow.j0 : Nat → List Int → Bool → Option (Bool)
 | 0, _, _ => none
 | k + 1, x0, x28 => if x28 = true then (some false) else (spec_dpRow.l0 k x0 1)
def spec_dpRow.l0 : Nat → List Int → Int → Option (Bool)
 | 0, _, _ => none
 | k + 1, x0, x5 => if x5 < (x0.length : Int) then (if 0 ≤ x5 then (if 0 ≤ (wrap64 (x5 - 1)) then (if (wrap64 (x5 - 1)) < (x0.length : Int) then (if (rd x0 x5) > (rd x0 (wrap64 (x5 - 1))) then (some false) else (spec_dpRow.l0 k x0 (wrap64 (x5 + 1)))) else (none)) else (none)) else (none)) else (some true)
end
def spec_dpRow.f (k : Nat) (l0 : List Int) (a1 : Int) : Option (Bool) := if (l0.length : Int) = 0 then (spec_dpRow.j0 k l0 true) else (if (l0.length : Int) ≥ a1 then (spec_dpRow.j0 k l0 true) else ((spec_l1All.f k l0 1 a1).bind fun t364 => (if t364 = true then (if 0 < (l0.length : Int) then (spec_dpRow.j0 k l0 (decide ((rd l0 0) ≤ (l0.length : Int)))) else (none)) else (spec_dpRow.j0 k l0 true))))
theorem spec_dpRow.mono_l : ∀ k, (∀ y0 y1, LeO (spec_dpRow.j0 k y0 y1) (spec_dpRow.j0 (k + 1) y0 y1)) ∧ (∀ y0 y1, LeO (spec_dpRow.l0 k y0 y1) (spec_dpRow.l0 (k + 1) y0 y1))
 | 0 => ⟨fun _ _ r h => by simp [spec_dpRow.j0] at h, fun _ _ r h => by simp [spec_dpRow.l0] at h⟩
 | k + 1 => by
  obtain ⟨ih0, ih1⟩ := spec_dpRow.mono_l k
  refine ⟨?_, ?_⟩
  ·intro y0 y1
   unfold spec_dpRow.j0
   repeat' first
   | (with_reducible exact ih0 _ _)
   | (with_reducible exact ih1 _ _)
   | (with_reducible exact spec_l1All.mono _ _ _ _)
   | (with_reducible exact LeO.refl _)
   | (with_reducible exact LeO.none _)
   | (with_reducible refine LeO.ite ?_ ?_)
   | (with_reducible refine LeO.bind ?_ (fun _ => ?_))
   | exact ih0 _ _
   | exact ih1 _ _
   | exact spec_l1All.mono _ _ _ _
   | exact LeO.none _
   | refine LeO.ite ?_ ?_
   | refine LeO.bind ?_ (fun _ => ?_)
  ·intro y0 y1
   unfold spec_dpRow.l0
   repeat' first
   | (with_reducible exact ih0 _ _)
   | (with_reducible exact ih1 _ _)
   | (with_reducible exact spec_l1All.mono _ _ _ _)
   | (with_reducible exact LeO.refl _)
   | (with_reducible exact LeO.none _)
   | (with_reducible refine LeO.ite ?_ ?_)
   | (with_reducible refine LeO.bind ?_ (fun _ => ?_))
   | exact ih0 _ _
   | exact ih1 _ _
   | exact spec_l1All.mono _ _ _ _
   | exact LeO.none _
   | refine LeO.ite ?_ ?_
   | refine LeO.bind ?_ (fun _ => ?_)
theorem spec_dpRow.mono : ∀ a0 a1 k, LeO (spec_dpRow.f k a0 a1) (spec_dpRow.f (k + 1) a0 a1) := by
 intro a0 a1 k
 obtain ⟨ih0, ih1⟩ := spec_dpRow.mono_l k
 unfold spec_dpRow.f
 repeat' first
   | (with_reducible exact ih0 _ _)
   | (with_reducible exact ih1 _ _)
   | (with_reducible exact spec_l1All.mono _ _ _ _)
   | (with_reducible exact LeO.refl _)
   | (with_reducible exact LeO.none _)
   | (with_reducible refine LeO.ite ?_ ?_)
   | (with_reducible refine LeO.bind ?_ (fun _ => ?_))
   | exact ih0 _ _
   | exact ih1 _ _
   | exact spec_l1All.mono _ _ _ _
   | exact LeO.none _
   | refine LeO.ite ?_ ?_
   | refine LeO.bind ?_ (fun _ => ?_)
set_option maxHeartbeats 8000000 in
set_option maxRecDepth 100000 in
theorem spec_dpRow.calls (k : Nat) (A0 : Option Addr) (c0 : Nat) (l0 : List Int) (a1 : Int) (r : Bool) (w : World) (hr0 : Kd.C (Kd.int .i64) w A0 l0.length l0) (hc0 : l0.length ≤ c0) (h : spec_dpRow.f k l0 a1 = some r) :
  Calls Try.prog 95 #[.slice A0 l0.length c0, .int .i64 a1] w fun e w' => e = .returned (.bool r) ∧ Drawn0 w w' := by
 have HR0 := Aside0.mk hr0
 have HC0 := Aside0.mk hc0
 clear hr0 hc0
 have H : (if (l0.length : Int) = 0 then (spec_dpRow.j0 k l0 true) else (if (l0.length : Int) ≥ a1 then (spec_dpRow.j0 k l0 true) else ((spec_l1All.f k l0 1 a1).bind fun t364 => (if t364 = true then (if 0 < (l0.length : Int) then (spec_dpRow.j0 k l0 (decide ((rd l0 0) ≤ (l0.length : Int)))) else (none)) else (spec_dpRow.j0 k l0 true))))) = some r := h
 clear h
 have HC3 := Aside0.mk H
 clear H
 go_enter Try.func95, Try.ntmps95
 go_upto_region 1 with (fail)
 repeat (go_quiet (fail); go_upto_region 1 with (fail))
 go_cut [28] (fun v28 wc => ∃ (kq : Nat) (x28_2 : Bool), v28 = .bool x28_2 ∧ Aside0 (spec_dpRow.j0 kq l0 x28_2 = some r) ∧ Aside0 (kq ≤ k) ∧ Drawn0 w wc)
 case first =>
  have H := HC3.out
  clear HC3
  by_cases c4 : (l0.length : Int) = 0
  ·rw [if_pos c4] at H
   have c4b0 : ((l0.length : Int) == 0) = true := beq_iff_eq.mpr c4
   have c4b1 : ((l0.length : Int) != 0) = false := bne_eq_false_iff_eq.mpr c4
   clear c4
   (try rw [c4b1])
   (first | rw [c4b0] | (simp only [i64_w, i32_w]; rw [c4b0]) | skip)
   have H' := Aside0.mk H
   clear H
   go_wp2
   repeat (go_quiet (fail); try go_wp2)
   go_meet
   case rel => exact ⟨_, (true), (by first | rfl | (simp; done) | (simp [*]; done)), H', ⟨by first | omega | exact Nat.le_refl _⟩, by repeat (first | exact Drawn0.refl _ | apply Drawn0.step)⟩
  ·rw [if_neg c4] at H
   have c4b0 : ((l0.length : Int) == 0) = false := beq_eq_false_iff_ne.mpr c4
   have c4b1 : ((l0.length : Int) != 0) = true := bne_iff_ne.mpr c4
   have c4b2 : ¬ (l0 = []) := fun h_ => c4 (by rw [h_]; rfl)
   (try rw [c4b1])
   (first | rw [c4b0] | (simp only [i64_w, i32_w]; rw [c4b0]) | skip)
   by_cases c5 : (l0.length : Int) ≥ a1
   ·rw [if_pos c5] at H
    have c5b0 : decide (a1 ≤ (l0.length : Int)) = true := decide_eq_true c5
    clear c5
    have H' := Aside0.mk H
    clear H
    go_wp2
    repeat (go_quiet (fail); try go_wp2)
    go_meet
    case rel => exact ⟨_, (true), (by first | rfl | (simp; done) | (simp [*]; done)), H', ⟨by first | omega | exact Nat.le_refl _⟩, by repeat (first | exact Drawn0.refl _ | apply Drawn0.step)⟩
   ·rw [if_neg c5] at H
    have c5b0 : decide (a1 ≤ (l0.length : Int)) = false := decide_eq_false c5
    clear c5
    replace H := Option.bind_eq_some_iff.mp H
    obtain ⟨t364, A60, H⟩ := H
    replace H : (if t364 = true then (if 0 < (l0.length : Int) then (spec_dpRow.j0 k l0 (decide ((rd l0 0) ≤ (l0.length : Int)))) else (none)) else (spec_dpRow.j0 k l0 true)) = some r := H
    have A6 := Aside0.mk A60
    clear A60
    by_cases c7 : t364 = true
    ·subst c7
     have H1 : (if 0 < (l0.length : Int) then (spec_dpRow.j0 k l0 (decide ((rd l0 0) ≤ (l0.length : Int)))) else (none)) = some r := by rw [if_pos rfl] at H; exact H
     clear H
     have H := H1
     clear H1
     by_cases c8 : 0 < (l0.length : Int)
     ·rw [if_pos c8] at H
      have c8b0 : decide (0 < (l0.length : Int)) = true := decide_eq_true c8
      have c8b1 : decide (0 < l0.length) = true := decide_eq_true (by omega)
      clear c8
      have H' := Aside0.mk H
      clear H
      go_wp2_with (first | (go_at_call 114; (with_reducible refine (spec_l1All.calls k _ _ l0 1 a1 true _ ?side1 ?side2 A6.out).mono ?_); (case side1 => repeat (first | exact HR0.out | (with_reducible refine Kd.C_alloc ?_ _) | (with_reducible refine Kd.C_drewN ?_ _) | (with_reducible refine Kd.C_drew ?_))); (case side2 => exact HC0.out); rintro e w' ⟨rfl, ⟨nd, rfl⟩⟩; (try first | exact ⟨rfl, _, World.drewN_drewN _ _ _⟩ | exact ⟨rfl, _, Eq.trans (World.drewN_drewN _ _ _) (congrArg (World.drewN _) (Nat.add_assoc _ _ _))⟩); have p365 : 0 ≤ (0 : Int) := (by omega); have q365 : 0 < (l0.length : Int) := of_decide_eq_true (by first | (with_reducible assumption) | assumption); obtain ⟨ad365, e365, hx365_0⟩ := Kd.at_int HR0.out 0 p365 q365; cases e365; have qi365 : (0 < l0.length) = True := eq_true (by omega); (try rw [show ((0 : Int)).toNat = 0 from rfl] at hx365_0); (try rw [Addr.add_zero'] at hx365_0); replace p365 := eq_true p365; replace q365 := eq_true q365))
      repeat (go_quiet (first | (go_at_call 114; (with_reducible refine (spec_l1All.calls k _ _ l0 1 a1 true _ ?side1 ?side2 A6.out).mono ?_); (case side1 => repeat (first | exact HR0.out | (with_reducible refine Kd.C_alloc ?_ _) | (with_reducible refine Kd.C_drewN ?_ _) | (with_reducible refine Kd.C_drew ?_))); (case side2 => exact HC0.out); rintro e w' ⟨rfl, ⟨nd, rfl⟩⟩; (try first | exact ⟨rfl, _, World.drewN_drewN _ _ _⟩ | exact ⟨rfl, _, Eq.trans (World.drewN_drewN _ _ _) (congrArg (World.drewN _) (Nat.add_assoc _ _ _))⟩); have p365 : 0 ≤ (0 : Int) := (by omega); have q365 : 0 < (l0.length : Int) := of_decide_eq_true (by first | (with_reducible assumption) | assumption); obtain ⟨ad365, e365, hx365_0⟩ := Kd.at_int HR0.out 0 p365 q365; cases e365; have qi365 : (0 < l0.length) = True := eq_true (by omega); (try rw [show ((0 : Int)).toNat = 0 from rfl] at hx365_0); (try rw [Addr.add_zero'] at hx365_0); replace p365 := eq_true p365; replace q365 := eq_true q365)); try go_wp2_with (first | (go_at_call 114; (with_reducible refine (spec_l1All.calls k _ _ l0 1 a1 true _ ?side1 ?side2 A6.out).mono ?_); (case side1 => repeat (first | exact HR0.out | (with_reducible refine Kd.C_alloc ?_ _) | (with_reducible refine Kd.C_drewN ?_ _) | (with_reducible refine Kd.C_drew ?_))); (case side2 => exact HC0.out); rintro e w' ⟨rfl, ⟨nd, rfl⟩⟩; (try first | exact ⟨rfl, _, World.drewN_drewN _ _ _⟩ | exact ⟨rfl, _, Eq.trans (World.drewN_drewN _ _ _) (congrArg (World.drewN _) (Nat.add_assoc _ _ _))⟩); have p365 : 0 ≤ (0 : Int) := (by omega); have q365 : 0 < (l0.length : Int) := of_decide_eq_true (by first | (with_reducible assumption) | assumption); obtain ⟨ad365, e365, hx365_0⟩ := Kd.at_int HR0.out 0 p365 q365; cases e365; have qi365 : (0 < l0.length) = True := eq_true (by omega); (try rw [show ((0 : Int)).toNat = 0 from rfl] at hx365_0); (try rw [Addr.add_zero'] at hx365_0); replace p365 := eq_true p365; replace q365 := eq_true q365)))
      go_meet
      case rel => exact ⟨_, (decide ((rd l0 0) ≤ (l0.length : Int))), (by first | rfl | (simp; done) | (simp [*]; done)), H', ⟨by first | omega | exact Nat.le_refl _⟩, by repeat (first | exact Drawn0.refl _ | apply Drawn0.step)⟩
     ·rw [if_neg c8] at H
      exact absurd H (by simp)
    ·replace c7 := Bool.eq_false_iff.mpr c7
     subst c7
     have H1 : (spec_dpRow.j0 k l0 true) = some r := by rw [if_neg (show ¬ (false = true) by decide)] at H; exact H
     clear H
     have H := H1
     clear H1
     have H' := Aside0.mk H
     clear H
     go_wp2_with (first | (go_at_call 114; (with_reducible refine (spec_l1All.calls k _ _ l0 1 a1 false _ ?side1 ?side2 A6.out).mono ?_); (case side1 => repeat (first | exact HR0.out | (with_reducible refine Kd.C_alloc ?_ _) | (with_reducible refine Kd.C_drewN ?_ _) | (with_reducible refine Kd.C_drew ?_))); (case side2 => exact HC0.out); rintro e w' ⟨rfl, ⟨nd, rfl⟩⟩; (try first | exact ⟨rfl, _, World.drewN_drewN _ _ _⟩ | exact ⟨rfl, _, Eq.trans (World.drewN_drewN _ _ _) (congrArg (World.drewN _) (Nat.add_assoc _ _ _))⟩)))
     repeat (go_quiet (first | (go_at_call 114; (with_reducible refine (spec_l1All.calls k _ _ l0 1 a1 false _ ?side1 ?side2 A6.out).mono ?_); (case side1 => repeat (first | exact HR0.out | (with_reducible refine Kd.C_alloc ?_ _) | (with_reducible refine Kd.C_drewN ?_ _) | (with_reducible refine Kd.C_drew ?_))); (case side2 => exact HC0.out); rintro e w' ⟨rfl, ⟨nd, rfl⟩⟩; (try first | exact ⟨rfl, _, World.drewN_drewN _ _ _⟩ | exact ⟨rfl, _, Eq.trans (World.drewN_drewN _ _ _) (congrArg (World.drewN _) (Nat.add_assoc _ _ _))⟩))); try go_wp2_with (first | (go_at_call 114; (with_reducible refine (spec_l1All.calls k _ _ l0 1 a1 false _ ?side1 ?side2 A6.out).mono ?_); (case side1 => repeat (first | exact HR0.out | (with_reducible refine Kd.C_alloc ?_ _) | (with_reducible refine Kd.C_drewN ?_ _) | (with_reducible refine Kd.C_drew ?_))); (case side2 => exact HC0.out); rintro e w' ⟨rfl, ⟨nd, rfl⟩⟩; (try first | exact ⟨rfl, _, World.drewN_drewN _ _ _⟩ | exact ⟨rfl, _, Eq.trans (World.drewN_drewN _ _ _) (congrArg (World.drewN _) (Nat.add_assoc _ _ _))⟩))))
     go_meet
     case rel => exact ⟨_, (true), (by first | rfl | (simp; done) | (simp [*]; done)), H', ⟨by first | omega | exact Nat.le_refl _⟩, by repeat (first | exact Drawn0.refl _ | apply Drawn0.step)⟩
 case rest =>
  clear HC3
  try clear p2
  try clear p3
  try clear q3
  try clear hx3
  try clear qi3
  try clear c4
  try clear c4b0
  try clear c4b1
  try clear c4b2
  try clear c5
  try clear c5b0
  try clear c7
  try clear c8
  try clear c8b0
  try clear c8b1
  try clear hx365_0
  try clear p365
  try clear q365
  obtain ⟨kq, x28_2, rfl, HA, HJ2, ⟨mc2, rfl⟩⟩ := hcut
  cases kq with
  | zero => exact absurd HA.out (by simp [spec_dpRow.j0])
  | succ kj2 =>
   have H := HA.out
   clear HA
   simp only [spec_dpRow.j0] at H
   by_cases c9 : x28_2 = true
   ·subst c9
    have H1 : (some false) = some r := by rw [if_pos rfl] at H; exact H
    clear H
    have H := H1
    clear H1
    obtain rfl := Option.some.inj H
    go_wp2
    repeat (go_quiet (fail); try go_wp2)
    go_ret
    exact ⟨by first | rfl | (simp; done) | (simp [*]; done), by repeat (first | exact Drawn0.refl _ | apply Drawn0.step)⟩
   ·replace c9 := Bool.eq_false_iff.mpr c9
    subst c9
    have H1 : (spec_dpRow.l0 kj2 l0 1) = some r := by rw [if_neg (show ¬ (false = true) by decide)] at H; exact H
    clear H
    have H := H1
    clear H1
    have H' := Aside0.mk H
    clear H
    go_wp2
    repeat (go_quiet (fail); try go_wp2)
    go_loopg [5] kj2 (fun kq v5 w' => ∃ (x5_2 : Int), v5 = .int .i64 x5_2 ∧ Aside0 (spec_dpRow.l0 kq l0 x5_2 = some r) ∧ Aside0 (kq ≤ kj2) ∧ Drawn0 w w')
    case atStart => exact ⟨(1), (by first | rfl | (simp; done) | (simp [*]; done)), H', ⟨Nat.le_refl _⟩, by repeat (first | exact Drawn0.refl _ | apply Drawn0.step)⟩
    case round =>
     clear H'
     try clear c2
     try clear p2
     try clear p3
     try clear q3
     try clear hx3
     try clear qi3
     try clear c4
     try clear c4b0
     try clear c4b1
     try clear c4b2
     try clear c5
     try clear c5b0
     try clear c7
     try clear c8
     try clear c8b0
     try clear c8b1
     try clear c9
     try clear hx365_0
     try clear p2
     try clear p3
     try clear p365
     try clear q3
     try clear q365
     obtain ⟨x5_2, rfl, HA, HK2, ⟨m2, rfl⟩⟩ := hrel
     cases gk with
     | zero => exact absurd HA.out (by simp [spec_dpRow.l0])
     | succ k2 =>
      have H := HA.out
      clear HA
      simp only [spec_dpRow.l0] at H
      by_cases c10 : x5_2 < (l0.length : Int)
      ·rw [if_pos c10] at H
       have c10b0 : decide (x5_2 < (l0.length : Int)) = true := decide_eq_true c10
       clear c10
       by_cases c11 : 0 ≤ x5_2
       ·rw [if_pos c11] at H
        have c11b0 : decide (0 ≤ x5_2) = true := decide_eq_true c11
        clear c11
        obtain ⟨ji12, hji12⟩ : ∃ j_ : Int, (wrap64 (x5_2 - 1)) = j_ := ⟨_, rfl⟩
        replace H : (if 0 ≤ (ji12) then (if (ji12) < (l0.length : Int) then (if (rd l0 x5_2) > (rd l0 (ji12)) then (some false) else (spec_dpRow.l0 k2 l0 (wrap64 (x5_2 + 1)))) else (none)) else (none)) = some r := by first | (rw [hji12] at H; exact H) | (simp only [hji12] at H ⊢; exact H)
        have hji12w : (IntKind.i64.wrap (x5_2 - 1)) = ji12 := (i64_w _).trans hji12
        by_cases c13 : 0 ≤ (ji12)
        ·rw [if_pos c13] at H
         have c13b0 : decide (0 ≤ (ji12)) = true := decide_eq_true c13
         clear c13
         by_cases c14 : (ji12) < (l0.length : Int)
         ·rw [if_pos c14] at H
          have c14b0 : decide ((ji12) < (l0.length : Int)) = true := decide_eq_true c14
          clear c14
          by_cases c15 : (rd l0 x5_2) > (rd l0 (ji12))
          ·rw [if_pos c15] at H
           have c15b0 : decide ((rd l0 (ji12)) < (rd l0 x5_2)) = true := decide_eq_true c15
           clear c15
           obtain rfl := Option.some.inj H
           have p366 : 0 ≤ (x5_2 : Int) := of_decide_eq_true (by first | (with_reducible assumption) | assumption)
           have q366 : x5_2 < (l0.length : Int) := of_decide_eq_true (by first | (with_reducible assumption) | assumption)
           obtain ⟨ad366, e366, hx366_0⟩ := Kd.at_int HR0.out x5_2 p366 q366
           cases e366
           replace p366 := eq_true p366
           replace q366 := eq_true q366
           have p367 : 0 ≤ ((ji12) : Int) := of_decide_eq_true (by first | (with_reducible assumption) | assumption)
           have q367 : (ji12) < (l0.length : Int) := of_decide_eq_true (by first | (with_reducible assumption) | assumption)
           obtain ⟨ad367, e367, hx367_0⟩ := Kd.at_int HR0.out (ji12) p367 q367
           obtain rfl : ad366 = ad367 := (by injection e367)
           replace p367 := eq_true p367
           replace q367 := eq_true q367
           go_wp2
           repeat (go_quiet (fail); try go_wp2)
           go_ret
           exact ⟨by first | rfl | (simp; done) | (simp only [← hji12] <;> (first | rfl | simp)) | (simp [*]; done), by repeat (first | exact Drawn0.refl _ | apply Drawn0.step)⟩
          ·rw [if_neg c15] at H
           have c15b0 : decide ((rd l0 (ji12)) < (rd l0 x5_2)) = false := decide_eq_false c15
           clear c15
           have H' := Aside0.mk H
           clear H
           have p366 : 0 ≤ (x5_2 : Int) := of_decide_eq_true (by first | (with_reducible assumption) | assumption)
           have q366 : x5_2 < (l0.length : Int) := of_decide_eq_true (by first | (with_reducible assumption) | assumption)
           obtain ⟨ad366, e366, hx366_0⟩ := Kd.at_int HR0.out x5_2 p366 q366
           cases e366
           replace p366 := eq_true p366
           replace q366 := eq_true q366
           have p367 : 0 ≤ ((ji12) : Int) := of_decide_eq_true (by first | (with_reducible assumption) | assumption)
           have q367 : (ji12) < (l0.length : Int) := of_decide_eq_true (by first | (with_reducible assumption) | assumption)
           obtain ⟨ad367, e367, hx367_0⟩ := Kd.at_int HR0.out (ji12) p367 q367
           obtain rfl : ad366 = ad367 := (by injection e367)
           replace p367 := eq_true p367
           replace q367 := eq_true q367
           go_wp2
           repeat (go_quiet (fail); try go_wp2)
           go_roundg k2
           case measure => have := HJ2.out; have := HK2.out; omega
           case rel => exact ⟨(wrap64 (x5_2 + 1)), (by first | rfl | (simp; done) | (simp [*]; done)), H', ⟨by have := HJ2.out; have := HK2.out; omega⟩, by repeat (first | exact Drawn0.refl _ | apply Drawn0.step)⟩
         ·rw [if_neg c14] at H
          exact absurd H (by simp)
        ·rw [if_neg c13] at H
         exact absurd H (by simp)
       ·rw [if_neg c11] at H
        exact absurd H (by simp)
      ·rw [if_neg c10] at H
       have c10b0 : decide (x5_2 < (l0.length : Int)) = false := decide_eq_false c10
       clear c10
       obtain rfl := Option.some.inj H
       go_wp2
       repeat (go_quiet (fail); try go_wp2)
       go_ret
       exact ⟨by first | rfl | (simp; done) | (simp [*]; done), by repeat (first | exact Drawn0.refl _ | apply Drawn0.step)⟩

end Go.Proofs.Ytdcdkckpmkfjdaa.P
