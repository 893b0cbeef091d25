/- Texts of one chain, in build order. -/
import Derived.Test.YtkiloimggmpggaaYCondenseSteps3
import Derived.Test.YtkiloimggmpggaaProg
import Derived.Below
import Derived.Deep.Draws
import Derived.Deep.AppendLies
import Derived.Maps.AppendAt
import Derived.OwnWalk
import Derived.Laws.BytesArg
import Derived.Laws.MakeOwn
import Derived.Laws.OwnMore
import Derived.Deep.OwnRows
import Derived.Tactics
import Derived.Lib.ConvBytes
import Derived.Laws.Slices
import Derived.WalkKit
import Derived.KernelRfl
import Derived.RowKit3
import Derived.Deep.LoopGhost
import Derived.Deep.QuietTactic
import Derived.BigQuiet
import Derived.WideLaws
import Derived.Deep.DeepCutAuto
import Derived.Deep.CutBlock
import Derived.Deep.RegionHeld3
import Derived.Laws.Rows
import Derived.Lib.AppendStr
import Derived.ArgAppend
import Derived.Laws.IdiomCopy
import Derived.OrdersHeld
import Derived.Laws.BitsLemmas
import Derived.RowKit
import Derived.Shelf.Abstract
import Derived.WalkSpells
namespace Go.Proofs.Ytkiloimggmpggaa
open Go.RowKit Go.Proofs.YtkiloimggmpggaaW.PrintWords Go.Proofs.YtkiloimggmpggaaW.PrintLast Go.Proofs.YtkiloimggmpggaaW.PrintMore
set_option linter.unusedVariables false
set_option linter.unusedSimpArgs false

/-- The place of the first element for which p holds, from k on; -1 if there is none. -/
def idxFrom {α : Type} (p : α → Bool) : Nat → List α → Int
 | _, [] => -1
 | k, x :: r => if p x then (k : Int) else idxFrom p (k + 1) r
def idxOf {α : Type} (p : α → Bool) (l : List α) : Int := idxFrom p 0 l
theorem idxFrom_hit {α : Type} (p : α → Bool) (l : List α) : ∀ (m kk : Nat) (h : kk < l.length), (∀ j (hj : j < kk), p (l[j]'(by omega)) = false) → p l[kk] = true → idxFrom p m l = ((m + kk : Nat) : Int) := by
 induction l with
 | nil => intro m kk h; exact absurd h (by simp)
 | cons x r ih =>
  intro m kk h hn hy
  cases kk with
  | zero => simp only [List.getElem_cons_zero] at hy; simp [idxFrom, hy]
  | succ kk =>
   have h0 := hn 0 (by omega)
   simp only [List.getElem_cons_zero] at h0
   simp only [List.getElem_cons_succ] at hy
   have := ih (m + 1) kk (by simpa using h) (fun j hj => by have := hn (j + 1) (by omega); simpa using this) hy
   rw [idxFrom, if_neg (by simp [h0]), this]
   omega
theorem idxFrom_miss {α : Type} (p : α → Bool) (l : List α) : ∀ (m : Nat), (∀ j (hj : j < l.length), p l[j] = false) → idxFrom p m l = -1 := by
 induction l with
 | nil => intro m h; rfl
 | cons x r ih =>
  intro m hn
  have h0 := hn 0 (by simp)
  simp only [List.getElem_cons_zero] at h0
  rw [idxFrom, if_neg (by simp [h0])]
  exact ih (m + 1) (fun j hj => by have := hn (j + 1) (by simpa using hj); simpa using this)
theorem idxFrom_any {α : Type} (p : α → Bool) (l : List α) : ∀ m : Nat, decide (0 ≤ idxFrom p m l) = l.any p := by
 induction l with
 | nil => intro m; rfl
 | cons x r ih =>
  intro m
  rw [idxFrom]
  cases h : p x with
  | true => simp [h]
  | false => simp [h, ih (m + 1)]
theorem idxOf_any {α : Type} (p : α → Bool) (l : List α) : decide (0 ≤ idxOf p l) = l.any p := idxFrom_any p l 0

/-- A call of g in a later world answers a bool, and turns nothing. -/
def Gives (P : Program) (g : Nat) (args : Array Value) (W : World) (res : Value) : Prop :=
 Calls P g args W fun e W' => e = .returned res ∧ Below W.heap.size W W'

set_option maxHeartbeats 2000000 in
theorem slices_IndexFunc_int.calls (g : Nat) (lb : Array Value) (p : Int → Bool) (A0 : Option Addr) (c0 : Nat) (l0 : List Int) (w : World)
  (eg : ∀ args w, (callFunc g args).run Try.prog w = .ok (.enter g args) w)
  (hp : ∀ (x : Int) (W : World), x ∈ l0 → Below w.heap.size w W → Gives Try.prog g (#[.int .i64 x] ++ lb) W (.bool (p x)))
  (hr0 : Kd.C (Kd.int .i64) w A0 l0.length l0) (hc0 : l0.length ≤ c0) :
  Calls Try.prog 85 #[.slice A0 l0.length c0, .func (.func g) #[] lb] w fun e w' => e = .returned (.int .i64 (idxOf p l0)) ∧ Below w.heap.size w w' := by
 have hm := hr0.2.1
 have HR0 := Aside0.mk hr0
 have HP := Aside0.mk hp
 clear hr0 hc0 hp
 have hm1 : l0.length ≤ 9223372036854775807 := hm
 go_enter Try.func85, Try.ntmps85
 go_wp2
 go_loopg [5, 8] l0.length (fun gg _ s8 wr => ∃ kk : Nat, kk ≤ l0.length ∧ l0.length - kk ≤ gg ∧ s8 = .int .i64 kk ∧ Aside0 (Below w.heap.size w wr) ∧ Aside0 (∀ j (hj : j < l0.length), j < kk → p l0[j] = false))
 case atStart => exact ⟨0, Nat.zero_le _, by omega, rfl, ⟨Below.refl _ _⟩, ⟨fun j _ hj => absurd hj (Nat.not_lt_zero _)⟩⟩
 case round =>
  obtain ⟨kk, hkk, hg, rfl, HB, HN⟩ := hrel
  by_cases hlt : kk < l0.length
  ·have hltz : (kk : Int) < (l0.length : Int) := by omega
   obtain ⟨ad, e0, hx⟩ := Kd.at_int HR0.out kk (by omega) hltz
   cases e0
   replace hx := pw_cell_below HB.out hx
   have hrd : rd l0 kk = l0[kk] := by simp [rd, List.getD_eq_getElem?_getD, hlt]
   rw [hrd] at hx
   have hcall := HP.out l0[kk] wr (List.getElem_mem hlt) HB.out
   generalize hy : l0[kk] = y at hx hcall
   have HY := Aside0.mk hy
   clear hy
   simp only [Int.toNat_natCast] at hx
   cases hq : p y with
   | true =>
    rw [hq] at hcall
    have HQ := Aside0.mk hq
    clear hq
    go_wp2_with (go_at_fn g; refine (hcall).mono ?_; rintro e w' ⟨rfl, hb⟩)
    go_ret
    refine ⟨?_, below_then HB.out HB.out.size hb⟩
    unfold idxOf
    rw [idxFrom_hit p l0 0 kk hlt (fun j hj => HN.out j (by omega) hj) (by rw [HY.out]; exact HQ.out), Nat.zero_add]
    rfl
   | false =>
    rw [hq] at hcall
    have HQ := Aside0.mk hq
    clear hq
    go_wp2_with (go_at_fn g; refine (hcall).mono ?_; rintro e w' ⟨rfl, hb⟩)
    go_roundg (l0.length - (kk + 1))
    case measure => omega
    case rel =>
     refine ⟨kk + 1, by omega, by omega, by go_num, ⟨below_then HB.out HB.out.size hb⟩, ⟨fun j hj hjk => ?_⟩⟩
     by_cases e : j = kk
     ·subst e
      rw [HY.out]; exact HQ.out
     ·exact HN.out j hj (by omega)
  ·have hltz : ¬ (kk : Int) < (l0.length : Int) := by omega
   go_wp2
   go_ret
   refine ⟨?_, HB.out⟩
   unfold idxOf
   rw [idxFrom_miss p l0 0 (fun j hj => HN.out j hj (by omega))]
   rfl
set_option maxHeartbeats 2000000 in
theorem slices_ContainsFunc_int.calls (g : Nat) (lb : Array Value) (p : Int → Bool) (A0 : Option Addr) (c0 : Nat) (l0 : List Int) (w : World)
  (eg : ∀ args w, (callFunc g args).run Try.prog w = .ok (.enter g args) w)
  (hp : ∀ (x : Int) (W : World), x ∈ l0 → Below w.heap.size w W → Gives Try.prog g (#[.int .i64 x] ++ lb) W (.bool (p x)))
  (hr0 : Kd.C (Kd.int .i64) w A0 l0.length l0) (hc0 : l0.length ≤ c0) :
  Calls Try.prog 81 #[.slice A0 l0.length c0, .func (.func g) #[] lb] w fun e w' => e = .returned (.bool (l0.any p)) ∧ Below w.heap.size w w' := by
 rw [← idxOf_any]
 have hcon := slices_IndexFunc_int.calls g lb p A0 c0 l0 w eg hp hr0 hc0
 clear hp hr0
 generalize idxOf p l0 = r at hcon ⊢
 go_enter Try.func81, Try.ntmps81
 go_wp2_with (go_at_call 85; refine hcon.mono ?_; rintro e w' ⟨rfl, hb⟩)
 go_ret
 exact ⟨rfl, hb⟩
end Go.Proofs.Ytkiloimggmpggaa

namespace Go.Proofs.Ytkiloimggmpggaa
open Go.RowKit Go.Proofs.YtkiloimggmpggaaW.PrintWords Go.Proofs.YtkiloimggmpggaaW.PrintLast Go.Proofs.YtkiloimggmpggaaW.PrintMore
set_option linter.unusedVariables false
set_option linter.unusedSimpArgs false

theorem all_any {α : Type} (l : List α) (p : α → Bool) : (l.all fun x => p x) = !(l.any fun x => !(p x)) := by
 induction l with
 | nil => rfl
 | cons x r ih => simp [ih]
def inB (n lo hi : Int) : Bool := decide (lo ≤ n) && decide (n ≤ hi)
theorem inB_iff (n lo hi : Int) : inB n lo hi = true ↔ lo ≤ n ∧ n ≤ hi := by simp [inB]

def impl_within.f (a0 a1 a2 : Int) : Option Bool := some (inB a0 a1 a2)
theorem impl_within.calls (a0 : Int) (a1 : Int) (a2 : Int) (r : Bool) (w : World) (h : impl_within.f a0 a1 a2 = some r) :
  Calls Try.prog 54 #[.int .i64 a0, .int .i64 a1, .int .i64 a2] w fun e w' => e = .returned (.bool r) ∧ Drawn0 w w' := by
 obtain rfl := Option.some.inj h
 clear h
 by_cases h1 : a1 ≤ a0
 ·have d1 : decide (a1 ≤ a0) = true := decide_eq_true h1
  by_cases h2 : a0 ≤ a2
  ·have d2 : decide (a0 ≤ a2) = true := decide_eq_true h2
   have hr : inB a0 a1 a2 = true := by simp [inB, h1, h2]
   rw [hr]; clear hr
   go_enter Try.func54, Try.ntmps54
   go_wp2
   go_ret
   exact ⟨by first | rfl | (simp; done) | (simp [*]; done), Drawn0.refl _⟩
  ·have d2 : decide (a0 ≤ a2) = false := decide_eq_false h2
   have hr : inB a0 a1 a2 = false := by simp [inB, h1]; omega
   rw [hr]; clear hr
   go_enter Try.func54, Try.ntmps54
   go_wp2
   go_ret
   exact ⟨by first | rfl | (simp; done) | (simp [*]; done), Drawn0.refl _⟩
 ·have d1 : decide (a1 ≤ a0) = false := decide_eq_false h1
  have hr : inB a0 a1 a2 = false := by simp [inB]; omega
  rw [hr]; clear hr
  go_enter Try.func54, Try.ntmps54
  go_wp2
  go_ret
  exact ⟨by first | rfl | (simp; done) | (simp [*]; done), Drawn0.refl _⟩

theorem areWithin_1.calls (x lo hi : Int) (b1 b2 : Nat) (W : World) (h1 : W.cell? ⟨b1, 0, none⟩ = some (.int .i64 lo)) (h2 : W.cell? ⟨b2, 0, none⟩ = some (.int .i64 hi)) :
  Gives Try.prog 82 #[.int .i64 x, .pointer (some ⟨b1, 0, none⟩), .pointer (some ⟨b2, 0, none⟩)] W (.bool (!(inB x lo hi))) := by
 unfold Gives
 go_enter Try.func82, Try.ntmps82
 go_wp2_with (go_at_call 54; refine (impl_within.calls x lo hi _ _ rfl).mono ?_; rintro e w' ⟨rfl, hd⟩; have hb := hd.below; clear hd)
 go_ret
 exact ⟨rfl, hb⟩

def impl_areWithin.f (l0 : List Int) (a1 a2 : Int) : Option Bool := some (l0.all fun x => inB x a1 a2)
set_option maxHeartbeats 1000000 in
theorem impl_areWithin.calls (A0 : Option Addr) (c0 : Nat) (l0 : List Int) (a1 : Int) (a2 : Int) (r : Bool) (w : World) (hr0 : Kd.C (Kd.int .i64) w A0 l0.length l0) (hc0 : l0.length ≤ c0) (h : impl_areWithin.f l0 a1 a2 = some r) :
  Calls Try.prog 71 #[.slice A0 l0.length c0, .int .i64 a1, .int .i64 a2] w fun e w' => e = .returned (.bool r) ∧ Below w.heap.size w w' := by
 obtain rfl := Option.some.inj h
 clear h
 have eg : ∀ args w, (callFunc 82 args).run Try.prog w = .ok (.enter 82 args) w := enters_of Try.func82 (by kernel_rfl) rfl
 have hB2 : Below w.heap.size w ((w.alloc (.cells #[.int .i64 a1] 3)).alloc (.cells #[.int .i64 a2] 3)) := below_alloc (below_alloc (Below.refl _ _) _) _
 have hcon := slices_ContainsFunc_int.calls 82 #[.pointer (some ⟨w.heap.size, 0, none⟩), .pointer (some ⟨w.heap.size + 1, 0, none⟩)] (fun x => !(inB x a1 a2)) A0 c0 l0 ((w.alloc (.cells #[.int .i64 a1] 3)).alloc (.cells #[.int .i64 a2] 3)) eg
  (fun x W _ hb => areWithin_1.calls x a1 a2 _ _ W (pw_cell_below hb (by rw [World.cell?_alloc_past _ _ _ (by simp), World.cell?_alloc_at _ _ _ _ rfl]; rfl)) (pw_cell_below hb (by rw [World.cell?_alloc_at _ _ _ _ (by simp)]; rfl)))
  (Kd.C_below hr0 hB2) hc0
 clear hr0 hc0
 have hall : (l0.all fun x => inB x a1 a2) = !(l0.any fun x => !(inB x a1 a2)) := all_any l0 _
 rw [hall]
 clear hall
 generalize (l0.any fun x => !(inB x a1 a2)) = r at hcon ⊢
 have HB := Aside0.mk hB2
 clear hB2
 go_enter Try.func71, Try.ntmps71
 go_wp2_with (go_at_call 81; refine hcon.mono ?_; rintro e w' ⟨rfl, hb⟩)
 go_ret
 exact ⟨rfl, below_then HB.out HB.out.size hb⟩
end Go.Proofs.Ytkiloimggmpggaa

namespace Go.Proofs.Ytkiloimggmpggaa
open Go.RowKit Go.Proofs.YtkiloimggmpggaaW.PrintWords Go.Proofs.YtkiloimggmpggaaW.PrintLast Go.Proofs.YtkiloimggmpggaaW.PrintMore
set_option linter.unusedVariables false
set_option linter.unusedSimpArgs false

end Go.Proofs.Ytkiloimggmpggaa

namespace Go.Proofs.Ytkiloimggmpggaa
open Go.RowKit Go.Proofs.YtkiloimggmpggaaW.PrintWords Go.Proofs.YtkiloimggmpggaaW.PrintLast Go.Proofs.YtkiloimggmpggaaW.PrintMore
set_option linter.unusedVariables false
set_option linter.unusedSimpArgs false

/-- A block of whole numbers. -/
def intBlk (W : World) (g : Nat) (l : List Int) : Prop := W.heap[g]? = some (.cells (l.map (Value.int .i64)).toArray 3 (0, 0))
/-- A block of rows, each in a block of its own. -/
def rowBlk (W : World) (g : Nat) (cs : List Value) : Prop := W.heap[g]? = some (.cells cs.toArray 38 (0, 0))

theorem intBlk_R {W : World} {base g : Nat} {ok : Nat → Prop} {l : List Int} (h : intBlk W g l) (hb : base ≤ g) (hok : ok g) (hl : l.length ≤ 1000000000000000) :
  Kd.R (Kd.int .i64) 3 W base ok (.slice (some ⟨g, 0, none⟩) l.length l.length) l := by
 refine ⟨fun k hk => ?_, l.map (Value.int .i64), ⟨by simp [Kd.int, Kd.scalar], .inr ⟨g, l.length, _, rfl, hb, h, Nat.le_refl _, by unfold maxLen; omega, by simp [Kd.int, Kd.scalar], by simp [Kd.int, Kd.scalar]; exact List.take_of_length_le (by simp)⟩⟩, ?_⟩
 ·have : g = k := by simpa [Value.ownBlock] using hk
  exact this ▸ hok
 ·refine ⟨by simp [Kd.int, Kd.scalar], fun j p hj => ?_⟩
  have hj2 : j < l.length := (List.getElem?_eq_some_iff.1 hj).1
  have hp : l[j] = p := (List.getElem?_eq_some_iff.1 hj).2
  show ((l.map (Value.int .i64)).drop (j * 1)).take 1 = [Value.int .i64 p]
  rw [Nat.mul_one, List.drop_eq_getElem_cons (by simpa using hj2)]
  simp [hp]

theorem rows_S {W : World} {base g0 : Nat} {gs : Nat → Nat} {xss : List (List Int)} (hn : xss.length ≤ 1000000000000000) (hb : base ≤ g0)
  (h0 : rowBlk W g0 ((List.range xss.length).map fun k => Value.slice (some ⟨gs k, 0, none⟩) (xss.getD k []).length (xss.getD k []).length))
  (hk : ∀ k, k < xss.length → base ≤ gs k ∧ gs k ≠ g0 ∧ (xss.getD k []).length ≤ 1000000000000000 ∧ intBlk W (gs k) (xss.getD k []))
  (hinj : ∀ k k', k < xss.length → k' < xss.length → gs k = gs k' → k = k') :
  Kd.S (Kd.slice 3 (Kd.int .i64)) 38 W base (fun _ => True) (.slice (some ⟨g0, 0, none⟩) xss.length xss.length) xss := by
 refine ⟨fun b => ((List.range xss.length).find? (fun k => gs k == b)).getD 0, fun k _ => trivial, (List.range xss.length).map fun k => Value.slice (some ⟨gs k, 0, none⟩) (xss.getD k []).length (xss.getD k []).length, ?_, ?_⟩
 ·rw [List.length_zipIdx]
  exact ⟨by simp [Kd.tag, Kd.slice], .inr ⟨g0, xss.length, _, rfl, hb, h0, Nat.le_refl _, by unfold maxLen; omega, by simp [Kd.tag, Kd.slice], by simp [Kd.tag, Kd.slice]; exact List.take_of_length_le (by simp)⟩⟩
 ·refine ⟨by simp [Kd.tag, Kd.slice], fun j p hj => ?_⟩
  have hj2 : j < xss.length := by have := (List.getElem?_eq_some_iff.1 hj).1; simpa using this
  have hp : p = (xss[j], j) := by
   have := (List.getElem?_eq_some_iff.1 hj).2
   rw [← this]; simp
  subst hp
  obtain ⟨h1, h2, h3, h4⟩ := hk j hj2
  have hg : xss.getD j [] = xss[j] := by simp [List.getD_eq_getElem?_getD, hj2]
  rw [hg] at h3 h4
  have hf : ((List.range xss.length).find? (fun k => gs k == gs j)).getD 0 = j := by
   cases hq : (List.range xss.length).find? (fun k => gs k == gs j) with
   | none =>
    have := List.find?_eq_none.1 hq j (by simpa using hj2)
    simp at this
   | some k =>
    have hm := List.mem_of_find?_eq_some hq
    have hs := List.find?_some hq
    exact hinj k j (by simpa using hm) hj2 (by simpa using hs)
  refine ⟨Value.slice (some ⟨gs j, 0, none⟩) xss[j].length xss[j].length, ?_, intBlk_R h4 h1 ⟨⟨trivial, by simp [Value.ownBlock, h2]⟩, hf⟩ h3⟩
  show (((List.range xss.length).map fun k => Value.slice (some ⟨gs k, 0, none⟩) (xss.getD k []).length (xss.getD k []).length).drop (j * 1)).take 1 = _
  rw [Nat.mul_one, List.drop_eq_getElem_cons (by simpa using hj2)]
  simp [hj2]

/-- A table of whole numbers of the call's own: each row in a block of its own. -/
structure MTab (W : World) (B g0 : Nat) (gs : Nat → Nat) (T : List (List Int)) : Prop where
 ge : B ≤ g0
 top : rowBlk W g0 ((List.range T.length).map fun k => Value.slice (some ⟨gs k, 0, none⟩) (T.getD k []).length (T.getD k []).length)
 each : ∀ k, k < T.length → B ≤ gs k ∧ gs k ≠ g0 ∧ intBlk W (gs k) (T.getD k [])
 inj : ∀ k k', k < T.length → k' < T.length → gs k = gs k' → k = k'
theorem MTab.below {W W' : World} {B g0 : Nat} {gs : Nat → Nat} {T : List (List Int)} (h : MTab W B g0 gs T) (hb : Below W.heap.size W W') : MTab W' B g0 gs T where
 ge := h.ge
 top := blk_below h.top hb
 each := fun k hk => ⟨(h.each k hk).1, (h.each k hk).2.1, blk_below (h.each k hk).2.2 hb⟩
 inj := h.inj
theorem MTab.drew {W : World} {B g0 : Nat} {gs : Nat → Nat} {T : List (List Int)} (h : MTab W B g0 gs T) : MTab W.drew B g0 gs T := h.below (below_drew (Below.refl _ _))
theorem MTab.drewN {W : World} {B g0 : Nat} {gs : Nat → Nat} {T : List (List Int)} (h : MTab W B g0 gs T) (n : Nat) : MTab (W.drewN n) B g0 gs T := h.below (pw_below_drewN (Below.refl _ _) n)
theorem MTab.alloc {W : World} {B g0 : Nat} {gs : Nat → Nat} {T : List (List Int)} (h : MTab W B g0 gs T) (o : Obj) : MTab (W.alloc o) B g0 gs T := h.below (below_alloc (Below.refl _ _) _)
theorem MTab.lower {W : World} {B B' g0 : Nat} {gs : Nat → Nat} {T : List (List Int)} (h : MTab W B g0 gs T) (hb : B' ≤ B) : MTab W B' g0 gs T where
 ge := Nat.le_trans hb h.ge
 top := h.top
 each := fun k hk => ⟨Nat.le_trans hb (h.each k hk).1, (h.each k hk).2.1, (h.each k hk).2.2⟩
 inj := h.inj
theorem MTab.S {W : World} {B g0 : Nat} {gs : Nat → Nat} {T : List (List Int)} (h : MTab W B g0 gs T) (hn : T.length ≤ 1000000000000000) (hl : ∀ k, k < T.length → (T.getD k []).length ≤ 1000000000000000) :
  Kd.S (Kd.slice 3 (Kd.int .i64)) 38 W B (fun _ => True) (.slice (some ⟨g0, 0, none⟩) T.length T.length) T :=
 rows_S hn h.ge h.top (fun k hk => ⟨(h.each k hk).1, (h.each k hk).2.1, hl k hk, (h.each k hk).2.2⟩) h.inj
theorem MTab.cell {W : World} {B g0 : Nat} {gs : Nat → Nat} {T : List (List Int)} (h : MTab W B g0 gs T) (i j : Nat) (hi : i < T.length) (hj : j < (T.getD i []).length) : W.cell? ⟨gs i, j, none⟩ = some (.int .i64 ((T.getD i []).getD j 0)) := by
 rw [blk_cell (h.each i hi).2.2]
 simp only [List.getElem?_toArray, List.getElem?_map, List.getD_eq_getElem?_getD (l := T.getD i []), List.getElem?_eq_getElem hj, Option.map_some, Option.getD_some]
theorem MTab.free {W : World} {B g0 : Nat} {gs : Nat → Nat} {T : List (List Int)} (h : MTab W B g0 gs T) (i j : Nat) (hi : i < T.length) : W.frozen? ⟨gs i, j, none⟩ = false := blk_frozen (h.each i hi).2.2 j
/-- T with v at (i, j). -/
def putT (T : List (List Int)) (i j : Nat) (v : Int) : List (List Int) := T.set i ((T.getD i []).set j v)
theorem putT_length (T : List (List Int)) (i j : Nat) (v : Int) : (putT T i j v).length = T.length := by simp [putT]
theorem putT_row (T : List (List Int)) (i j : Nat) (v : Int) (k : Nat) : ((putT T i j v).getD k []).length = (T.getD k []).length := by
 unfold putT
 simp only [List.getD_eq_getElem?_getD, List.getElem?_set]
 by_cases h : i = k
 ·subst h
  by_cases h2 : i < T.length
  ·simp [h2]
  ·simp [h2]
 ·simp [h]
theorem MTab.put {W : World} {B g0 : Nat} {gs : Nat → Nat} {T : List (List Int)} (h : MTab W B g0 gs T) (i j : Nat) (hi : i < T.length) (v : Int) : MTab (W.setCell ⟨gs i, j, none⟩ (.int .i64 v)) B g0 gs (putT T i j v) where
 ge := h.ge
 top := by
  have e : (List.range (putT T i j v).length).map (fun k => Value.slice (some ⟨gs k, 0, none⟩) ((putT T i j v).getD k []).length ((putT T i j v).getD k []).length) = (List.range T.length).map fun k => Value.slice (some ⟨gs k, 0, none⟩) (T.getD k []).length (T.getD k []).length := by
   rw [putT_length]
   apply List.map_congr_left
   intro k hk
   rw [putT_row]
  unfold rowBlk
  rw [e]
  exact blk_far h.top (h.each i hi).2.1.symm _
 each := fun k hk => by
  rw [putT_length] at hk
  refine ⟨(h.each k hk).1, (h.each k hk).2.1, ?_⟩
  by_cases e : k = i
  ·subst e
   have e2 : (putT T k j v).getD k [] = (T.getD k []).set j v := by unfold putT; simp [List.getD_eq_getElem?_getD, hk]
   rw [e2]
   exact blk_put (h.each k hk).2.2 j _ (by simp)
  ·have e2 : (putT T i j v).getD k [] = T.getD k [] := by
    unfold putT
    rw [List.getD_eq_getElem?_getD, List.getElem?_set_ne (fun e3 => e e3.symm), List.getD_eq_getElem?_getD]
   rw [e2]
   exact blk_far (h.each k hk).2.2 (fun e3 => e (h.inj k i hk hi e3)) _
 inj := fun k k' hk hk' => h.inj k k' (by rwa [putT_length] at hk) (by rwa [putT_length] at hk')
/-- What comes back is a table of the call's own, as T tells it; all else is as it was. -/
def RetM (w : World) (T : List (List Int)) (e : Ending) (w' : World) : Prop := ∃ (g0 : Nat) (gs : Nat → Nat), e = .returned (.slice (some ⟨g0, 0, none⟩) T.length T.length) ∧ MTab w' w.heap.size g0 gs T ∧ Below w.heap.size w w'
theorem info_rows : (Try.prog.info? 38).map (fun i => (i.zero, i.size, i.bytes)) = some (some (.slice none 0 0), 1, 24) := by kernel_rfl
theorem info_ints : (Try.prog.info? 3).map (fun i => (i.zero, i.size, i.bytes)) = some (some (.int .i64 0), 1, 8) := by kernel_rfl

theorem madeRows (m : Nat) : madeCells #[Value.slice none 0 0] m = (List.replicate m (Value.slice none 0 0)).toArray := by
 apply Array.ext
 ·simp [madeCells]
 ·intro i h1 h2; simp [madeCells, Nat.mod_one]
theorem madeInts (m : Nat) : madeCells #[Value.int .i64 0] m = ((List.replicate m (0 : Int)).map (Value.int .i64)).toArray := by
 apply Array.ext
 ·simp [madeCells]
 ·intro i h1 h2; simp [madeCells, Nat.mod_one]


end Go.Proofs.Ytkiloimggmpggaa

namespace Go.Proofs.Ytkiloimggmpggaa
open Go.RowKit Go.Proofs.YtkiloimggmpggaaW.PrintWords Go.Proofs.YtkiloimggmpggaaW.PrintLast Go.Proofs.YtkiloimggmpggaaW.PrintMore
set_option linter.unusedVariables false
set_option linter.unusedSimpArgs false

theorem rd_nat (l : List Int) (i : Nat) (h : i < l.length) : rd l i = l[i] := by simp [rd, List.getD_eq_getElem?_getD, h]
/-- A copy while it is filled: i numbers are there. -/
theorem copy_next (l : List Int) (i : Nat) (h : i < l.length) : ((l.take i ++ List.replicate (l.length - i) 0).map (Value.int .i64)).toArray.setIfInBounds i (.int .i64 (rd l i)) = ((l.take (i + 1) ++ List.replicate (l.length - (i + 1)) 0).map (Value.int .i64)).toArray := by
 obtain ⟨m, hm⟩ : ∃ m, l.length - i = m + 1 := ⟨l.length - i - 1, by omega⟩
 have hi : min i l.length = i := by omega
 rw [hm, show l.length - (i + 1) = m by omega, rd_nat l i h]
 simp [List.replicate_succ, List.set_append, hi]
 have e : List.take (i + 1) (List.map (Value.int .i64) l) = List.take i (List.map (Value.int .i64) l) ++ [Value.int .i64 l[i]] := by
  rw [List.take_succ_eq_append_getElem (by simpa using h), List.getElem_map]
 rw [e, List.append_assoc]
 rfl
theorem copy_cell {wr : World} {g : Nat} {l : List Int} {i : Nat} (h : intBlk wr g (l.take i ++ List.replicate (l.length - i) 0)) (hi : i < l.length) : wr.cell? ⟨g, i, none⟩ = some (.int .i64 0) := by
 obtain ⟨m, hm⟩ : ∃ m, l.length - i = m + 1 := ⟨l.length - i - 1, by omega⟩
 have hi : min i l.length = i := by omega
 rw [blk_cell h, hm]
 simp [List.replicate_succ, hi]

def RetI (w : World) (l : List Int) (e : Ending) (w' : World) : Prop := ∃ g : Nat, e = .returned (.slice (some ⟨g, 0, none⟩) l.length l.length) ∧ intBlk w' g l ∧ w.heap.size ≤ g ∧ Below w.heap.size w w'
set_option maxHeartbeats 2000000 in
theorem laws_toIntS.callsM (A0 : Option Addr) (c0 : Nat) (l0 : List Int) (w : World) (hr0 : Kd.C (Kd.int .i64) w A0 l0.length l0) (hl : l0.length ≤ 17592186044416) :
  Calls Try.prog 30 #[.slice A0 l0.length c0] w (RetI w l0) := by
 have HR0 := Aside0.mk hr0
 clear hr0
 have mk2 := fun W : World => run_make_row' (P := Try.prog) 38 3 (.int .i64 0) 8 Try.underlying38 info_ints rfl .i64 .i64 l0.length (by omega) (by omega) W
 have hs : intBlk (w.alloc (.cells (madeCells #[.int .i64 0] l0.length) 3)) w.heap.size (l0.take 0 ++ List.replicate (l0.length - 0) 0) := by
  unfold intBlk
  rw [madeInts]
  simpa using blk_new w _
 have HS := Aside0.mk hs
 have HB0 := Aside0.mk (below_alloc (Below.refl w.heap.size w) (.cells (madeCells #[.int .i64 0] l0.length) 3))
 clear hs
 go_enter Try.func30, Try.ntmps30
 go_wp2
 go_loopg [4] l0.length (fun gg s4 wr => ∃ i : Nat, i ≤ l0.length ∧ l0.length - i ≤ gg ∧ s4 = .int .i64 i ∧ Aside0 (intBlk wr w.heap.size (l0.take i ++ List.replicate (l0.length - i) 0)) ∧ Aside0 (Below w.heap.size w wr))
 case atStart => exact ⟨0, Nat.zero_le _, Nat.le_refl _, rfl, HS, HB0⟩
 case round =>
  clear HS HB0
  obtain ⟨i, hi, hg, rfl, HI, HB⟩ := hrel
  by_cases hlt : i < l0.length
  ·have hlz : (i : Int) < (l0.length : Int) := by omega
   obtain ⟨ad, e0, hx⟩ := Kd.at_int HR0.out i (by omega) hlz
   cases e0
   replace hx := pw_cell_below HB.out hx
   simp only [Int.toNat_natCast] at hx
   have hy := copy_cell HI.out hlt
   have hf : wr.frozen? ⟨w.heap.size, i, none⟩ = false := blk_frozen HI.out i
   have HN : Aside0 (intBlk (wr.setCell ⟨w.heap.size, i, none⟩ (.int .i64 (rd l0 i))) w.heap.size (l0.take (i + 1) ++ List.replicate (l0.length - (i + 1)) 0)) := ⟨blk_put HI.out i _ (copy_next l0 i hlt)⟩
   have HB1 : Aside0 (Below w.heap.size w (wr.setCell ⟨w.heap.size, i, none⟩ (.int .i64 (rd l0 i)))) := ⟨HB.out.setCell (Nat.le_refl _) _⟩
   go_wp2
   go_roundg (l0.length - (i + 1))
   case measure => omega
   case rel => exact ⟨i + 1, by omega, by omega, by go_num, HN, HB1⟩
  ·have hlz : ¬ (i : Int) < (l0.length : Int) := by omega
   have hil : i = l0.length := by omega
   subst hil
   go_wp2
   go_ret
   exact ⟨_, rfl, by have := HI.out; simpa using this, Nat.le_refl _, HB.out⟩

/-- A table of copies while it is filled: i rows are there. -/
structure CopyAt (w wr : World) (g0 : Nat) (T : List (List Int)) (i : Nat) (gs : Nat → Nat) : Prop where
 below : Below w.heap.size w wr
 ge : w.heap.size ≤ g0
 top : rowBlk wr g0 ((List.range i).map (fun k => Value.slice (some ⟨gs k, 0, none⟩) (T.getD k []).length (T.getD k []).length) ++ List.replicate (T.length - i) (.slice none 0 0))
 each : ∀ k, k < i → g0 < gs k ∧ intBlk wr (gs k) (T.getD k [])
 inj : ∀ k k', k < k' → k' < i → gs k < gs k'
theorem CopyAt.init (w : World) (T : List (List Int)) : CopyAt w (w.alloc (.cells (madeCells #[.slice none 0 0] T.length) 38)) w.heap.size T 0 (fun _ => 0) where
 below := below_alloc (Below.refl _ _) _
 ge := Nat.le_refl _
 top := by
  unfold rowBlk
  rw [madeRows]
  simpa using blk_new w _
 each := fun k hk => by omega
 inj := fun k k' h1 h2 => by omega
theorem CopyAt.drew {w wr : World} {g0 i : Nat} {T : List (List Int)} {gs : Nat → Nat} (h : CopyAt w wr g0 T i gs) : CopyAt w wr.drew g0 T i gs where
 below := below_drew h.below
 ge := h.ge
 top := h.top
 each := h.each
 inj := h.inj
theorem CopyAt.mono {w wr wr' : World} {g0 i : Nat} {T : List (List Int)} {gs : Nat → Nat} (h : CopyAt w wr g0 T i gs) (hb : Below wr.heap.size wr wr') : CopyAt w wr' g0 T i gs where
 below := below_step h.below hb
 ge := h.ge
 top := blk_below h.top hb
 each := fun k hk => ⟨(h.each k hk).1, blk_below (h.each k hk).2 hb⟩
 inj := h.inj
theorem CopyAt.cell {w wr : World} {g0 i : Nat} {T : List (List Int)} {gs : Nat → Nat} (h : CopyAt w wr g0 T i gs) (hi : i < T.length) : wr.cell? ⟨g0, i, none⟩ = some (.slice none 0 0) := by
 rw [blk_cell h.top]
 obtain ⟨m, hm⟩ : ∃ m, T.length - i = m + 1 := ⟨T.length - i - 1, by omega⟩
 simp [hm, List.replicate_succ]
theorem CopyAt.free {w wr : World} {g0 i : Nat} {T : List (List Int)} {gs : Nat → Nat} (h : CopyAt w wr g0 T i gs) (x : Nat) : wr.frozen? ⟨g0, x, none⟩ = false := blk_frozen h.top x
theorem CopyAt.next {w wr : World} {g0 i gi : Nat} {T : List (List Int)} {gs : Nat → Nat} (h : CopyAt w wr g0 T i gs) (hi : i < T.length) (hr : intBlk wr gi (T.getD i [])) (hgt : g0 < gi) (hnew : ∀ k, k < i → gs k < gi) :
  CopyAt w (wr.setCell ⟨g0, i, none⟩ (.slice (some ⟨gi, 0, none⟩) (T.getD i []).length (T.getD i []).length)) g0 T (i + 1) (fun k => if k = i then gi else gs k) where
 below := h.below.setCell h.ge _
 ge := h.ge
 top := by
  have e : (List.range (i + 1)).map (fun k => Value.slice (some ⟨if k = i then gi else gs k, 0, none⟩) (T.getD k []).length (T.getD k []).length) = (List.range i).map (fun k => Value.slice (some ⟨gs k, 0, none⟩) (T.getD k []).length (T.getD k []).length) ++ [.slice (some ⟨gi, 0, none⟩) (T.getD i []).length (T.getD i []).length] := by
   rw [List.range_succ, List.map_append]
   congr 1
   ·apply List.map_congr_left
    intro k hk
    rw [if_neg (by have := List.mem_range.1 hk; omega)]
   ·simp
  unfold rowBlk
  rw [e]
  refine blk_put h.top i _ ?_
  obtain ⟨m, hm⟩ : ∃ m, T.length - i = m + 1 := ⟨T.length - i - 1, by omega⟩
  rw [hm, show T.length - (i + 1) = m by omega]
  simp [List.replicate_succ, List.set_append]
 each := fun k hk => by
  by_cases e : k = i
  ·subst e
   rw [if_pos rfl]
   exact ⟨hgt, blk_far hr (by show gi ≠ g0; omega) _⟩
  ·rw [if_neg e]
   obtain ⟨h1, h2⟩ := h.each k (by omega)
   exact ⟨h1, blk_far h2 (by show gs k ≠ g0; omega) _⟩
 inj := fun k k' h1 h2 => by
  rw [if_neg (show ¬ k = i by omega)]
  by_cases e : k' = i
  ·rw [if_pos e]; exact hnew k (by omega)
  ·rw [if_neg e]; exact h.inj k k' h1 (by omega)
theorem CopyAt.mtab {w wr : World} {g0 : Nat} {T : List (List Int)} {gs : Nat → Nat} (h : CopyAt w wr g0 T T.length gs) : MTab wr w.heap.size g0 gs T where
 ge := h.ge
 top := by
  have := h.top
  rw [Nat.sub_self] at this
  simpa using this
 each := fun k hk => by
  obtain ⟨h1, h2⟩ := h.each k hk
  have := h.ge
  exact ⟨by omega, by omega, h2⟩
 inj := fun k k' hk hk' e => by
  rcases Nat.lt_trichotomy k k' with hlt | he | hlt
  ·have := h.inj k k' hlt hk'; omega
  ·exact he
  ·have := h.inj k' k hlt hk; omega

theorem rowsAt {w : World} {A : Option Addr} {n : Nat} {xs : List (List Int)} (h : Kd.C (Kd.slice 3 (Kd.int .i64)) w A n xs) (i : Nat) (h1 : i < n) : ∃ ad A0 c0, A = some ad ∧ w.cell? (ad.add i) = some (.slice A0 (xs.getD i []).length c0) ∧ (xs.getD i []).length ≤ c0 ∧ (Kd.int .i64).C w A0 (xs.getD i []).length (xs.getD i []) := by
 obtain ⟨ad, c, e, _, hK, hc0⟩ := Kd.C_get h ([] : List Int) (i : Int) (by omega) (by omega)
 obtain ⟨A0, c0, rfl, l0, g0⟩ := hK
 have hq := hc0 0 _ rfl
 simp only [Int.toNat_natCast] at hq l0 g0
 exact ⟨ad, A0, c0, e, by have : (Kd.slice 3 (Kd.int .i64)).sz = 1 := rfl; rw [this, Nat.mul_one, Nat.add_zero] at hq; exact hq, l0, g0⟩

def rowsOk (T : List (List Int)) : Prop := T.length ≤ 11728124029610 ∧ ∀ r ∈ T, r.length ≤ 17592186044416
theorem rowsOk.at_ {T : List (List Int)} (h : rowsOk T) (i : Nat) : (T.getD i []).length ≤ 17592186044416 := by
 rw [List.getD_eq_getElem?_getD]
 rcases Nat.lt_or_ge i T.length with hi | hi
 ·rw [List.getElem?_eq_getElem hi]; exact h.2 _ (List.getElem_mem hi)
 ·rw [List.getElem?_eq_none hi]; simp
set_option maxHeartbeats 4000000 in
theorem laws_toIntSS.callsM (A0 : Option Addr) (c0 : Nat) (l0 : List (List Int)) (w : World) (hr0 : Kd.C (Kd.slice 3 (Kd.int .i64)) w A0 l0.length l0) (hl : rowsOk l0) :
  Calls Try.prog 8 #[.slice A0 l0.length c0] w (RetM w l0) := by
 have HR0 := Aside0.mk hr0
 have HL := Aside0.mk hl
 have hlen := hl.1
 clear hr0 hl
 have mk1 := fun W : World => run_make_row' (P := Try.prog) 22 38 (.slice none 0 0) 24 Try.underlying22 info_rows rfl .i64 .i64 l0.length (by omega) (by omega) W
 have HS := Aside0.mk (CopyAt.init w l0)
 go_enter Try.func8, Try.ntmps8
 go_wp2
 go_loopg [4] l0.length (fun gg s4 wr => ∃ (i : Nat) (gs : Nat → Nat), i ≤ l0.length ∧ l0.length - i ≤ gg ∧ s4 = .int .i64 i ∧ Aside0 (CopyAt w wr w.heap.size l0 i gs))
 case atStart => exact ⟨0, fun _ => 0, Nat.zero_le _, Nat.le_refl _, rfl, HS⟩
 case round =>
  clear HS
  obtain ⟨i, gs, hi, hg, rfl, HC⟩ := hrel
  by_cases hlt : i < l0.length
  ·have hlz : (i : Int) < (l0.length : Int) := by omega
   obtain ⟨ad, A1, c1, e0, hx, hc1, hrow⟩ := rowsAt HR0.out i hlt
   cases e0
   replace hx := pw_cell_below HC.out.below hx
   have hcall := laws_toIntS.callsM A1 c1 (l0.getD i []) wr (Kd.C_below hrow HC.out.below) (HL.out.at_ i)
   obtain ⟨row, hrw⟩ : ∃ r, r = l0.getD i [] := ⟨_, rfl⟩
   rw [← hrw] at hx hcall
   have HROW := Aside0.mk hrw
   clear hrw hrow hc1
   go_wp2_with (go_at_call 30; refine hcall.mono ?_; rintro e w' ⟨gi, rfl, hblk, hge, hb⟩; have HC1 := HC.out.mono hb; have hy := HC1.cell hlt; have hf := HC1.free i; have HN := Aside0.mk (HC1.next hlt (by rw [← HROW.out]; exact hblk) (Nat.lt_of_lt_of_le (blk_lt HC.out.top) hge) (fun k hk => Nat.lt_of_lt_of_le (blk_lt (HC.out.each k hk).2) hge)); rw [← HROW.out] at HN; clear hblk hge hb HC1)
   go_roundg (l0.length - (i + 1))
   case measure => omega
   case rel => exact ⟨i + 1, _, by omega, by omega, by go_num, HN⟩
  ·have hlz : ¬ (i : Int) < (l0.length : Int) := by omega
   have hil : i = l0.length := by omega
   subst hil
   go_wp2
   go_ret
   exact ⟨_, gs, rfl, HC.out.mtab, HC.out.below⟩


def laws_toIntSS.f (l0 : List (List Int)) : Option (List (List Int)) := if l0.length ≤ 11728124029610 ∧ (l0.all fun r => decide (r.length ≤ 17592186044416)) = true then some l0 else none
theorem laws_toIntSS.calls (A0 : Option Addr) (c0 : Nat) (l0 : List (List Int)) (r : List (List Int)) (w : World) (hr0 : Kd.C (Kd.slice 3 (Kd.int .i64)) w A0 l0.length l0) (hc0 : l0.length ≤ c0) (h : laws_toIntSS.f l0 = some r) :
  Calls Try.prog 8 #[.slice A0 l0.length c0] w fun e w' => ∃ v0_ : Value, e = .returned (v0_) ∧ Kd.S (Kd.slice 3 (Kd.int .i64)) 38 w' w.heap.size (fun _ => True) v0_ r ∧ Below w.heap.size w w' := by
 unfold laws_toIntSS.f at h
 by_cases hl : l0.length ≤ 11728124029610 ∧ (l0.all fun r => decide (r.length ≤ 17592186044416)) = true
 ·rw [if_pos hl] at h
  obtain rfl := Option.some.inj h
  have hok : rowsOk l0 := ⟨hl.1, fun r hr => of_decide_eq_true (List.all_eq_true.1 hl.2 r hr)⟩
  refine (laws_toIntSS.callsM A0 c0 l0 w hr0 hok).mono ?_
  rintro e w' ⟨g0, gs, rfl, hm, hw⟩
  exact ⟨_, rfl, hm.S (by have := hl.1; omega) (fun k _ => by have := hok.at_ k; omega), hw⟩
 ·rw [if_neg hl] at h
  cases h

end Go.Proofs.Ytkiloimggmpggaa

namespace Go.Proofs.Ytkiloimggmpggaa
open Go.RowKit Go.Proofs.YtkiloimggmpggaaW.PrintWords Go.Proofs.YtkiloimggmpggaaW.PrintLast Go.Proofs.YtkiloimggmpggaaW.PrintMore
set_option linter.unusedVariables false
set_option linter.unusedSimpArgs false

theorem getD_at {α : Type} (l : List α) (d : α) (i : Nat) (h : i < l.length) : l.getD i d = l[i] := by simp [List.getD_eq_getElem?_getD, h]
set_option maxHeartbeats 2000000 in
theorem slices_IndexFunc_rows.calls (g : Nat) (lb : Array Value) (p : List Int → Bool) (A0 : Option Addr) (c0 : Nat) (l0 : List (List Int)) (w : World)
  (eg : ∀ args w, (callFunc g args).run Try.prog w = .ok (.enter g args) w)
  (hp : ∀ (x : List Int) (A : Option Addr) (c : Nat) (W : World), x ∈ l0 → Below w.heap.size w W → Kd.C (Kd.int .i64) W A x.length x → x.length ≤ c → Gives Try.prog g (#[.slice A x.length c] ++ lb) W (.bool (p x)))
  (hr0 : Kd.C (Kd.slice 3 (Kd.int .i64)) w A0 l0.length l0) (hc0 : l0.length ≤ c0) :
  Calls Try.prog 80 #[.slice A0 l0.length c0, .func (.func g) #[] lb] w fun e w' => e = .returned (.int .i64 (idxOf p l0)) ∧ Below w.heap.size w w' := by
 have hm := hr0.2.1
 have HR0 := Aside0.mk hr0
 have HP := Aside0.mk hp
 clear hr0 hc0 hp
 have hm1 : l0.length ≤ 9223372036854775807 := hm
 go_enter Try.func80, Try.ntmps80
 go_wp2
 go_loopg [5, 8] l0.length (fun gg _ s8 wr => ∃ kk : Nat, kk ≤ l0.length ∧ l0.length - kk ≤ gg ∧ s8 = .int .i64 kk ∧ Aside0 (Below w.heap.size w wr) ∧ Aside0 (∀ j (hj : j < l0.length), j < kk → p l0[j] = false))
 case atStart => exact ⟨0, Nat.zero_le _, by omega, rfl, ⟨Below.refl _ _⟩, ⟨fun j _ hj => absurd hj (Nat.not_lt_zero _)⟩⟩
 case round =>
  obtain ⟨kk, hkk, hg, rfl, HB, HN⟩ := hrel
  by_cases hlt : kk < l0.length
  ·have hltz : (kk : Int) < (l0.length : Int) := by omega
   obtain ⟨ad, A1, c1, e0, hx, hc1, hrow⟩ := rowsAt HR0.out kk hlt
   cases e0
   replace hx := pw_cell_below HB.out hx
   rw [getD_at l0 [] kk hlt] at hx hc1 hrow
   have hcall := HP.out l0[kk] A1 c1 wr (List.getElem_mem hlt) HB.out (Kd.C_below hrow HB.out) hc1
   generalize hy : l0[kk] = y at hx hcall
   have HY := Aside0.mk hy
   clear hy hrow hc1
   cases hq : p y with
   | true =>
    rw [hq] at hcall
    have HQ := Aside0.mk hq
    clear hq
    go_wp2_with (go_at_fn g; refine (hcall).mono ?_; rintro e w' ⟨rfl, hb⟩)
    go_ret
    refine ⟨?_, below_then HB.out HB.out.size hb⟩
    unfold idxOf
    rw [idxFrom_hit p l0 0 kk hlt (fun j hj => HN.out j (by omega) hj) (by rw [HY.out]; exact HQ.out), Nat.zero_add]
    rfl
   | false =>
    rw [hq] at hcall
    have HQ := Aside0.mk hq
    clear hq
    go_wp2_with (go_at_fn g; refine (hcall).mono ?_; rintro e w' ⟨rfl, hb⟩)
    go_roundg (l0.length - (kk + 1))
    case measure => omega
    case rel =>
     refine ⟨kk + 1, by omega, by omega, by go_num, ⟨below_then HB.out HB.out.size hb⟩, ⟨fun j hj hjk => ?_⟩⟩
     by_cases e : j = kk
     ·subst e
      rw [HY.out]; exact HQ.out
     ·exact HN.out j hj (by omega)
  ·have hltz : ¬ (kk : Int) < (l0.length : Int) := by omega
   go_wp2
   go_ret
   refine ⟨?_, HB.out⟩
   unfold idxOf
   rw [idxFrom_miss p l0 0 (fun j hj => HN.out j hj (by omega))]
   rfl

set_option maxHeartbeats 2000000 in
theorem slices_ContainsFunc_rows.calls (g : Nat) (lb : Array Value) (p : List Int → Bool) (A0 : Option Addr) (c0 : Nat) (l0 : List (List Int)) (w : World)
  (eg : ∀ args w, (callFunc g args).run Try.prog w = .ok (.enter g args) w)
  (hp : ∀ (x : List Int) (A : Option Addr) (c : Nat) (W : World), x ∈ l0 → Below w.heap.size w W → Kd.C (Kd.int .i64) W A x.length x → x.length ≤ c → Gives Try.prog g (#[.slice A x.length c] ++ lb) W (.bool (p x)))
  (hr0 : Kd.C (Kd.slice 3 (Kd.int .i64)) w A0 l0.length l0) (hc0 : l0.length ≤ c0) :
  Calls Try.prog 69 #[.slice A0 l0.length c0, .func (.func g) #[] lb] w fun e w' => e = .returned (.bool (l0.any p)) ∧ Below w.heap.size w w' := by
 rw [← idxOf_any]
 have hcon := slices_IndexFunc_rows.calls g lb p A0 c0 l0 w eg hp hr0 hc0
 clear hp hr0
 generalize idxOf p l0 = r at hcon ⊢
 go_enter Try.func69, Try.ntmps69
 go_wp2_with (go_at_call 80; refine hcon.mono ?_; rintro e w' ⟨rfl, hb⟩)
 go_ret
 exact ⟨rfl, hb⟩

end Go.Proofs.Ytkiloimggmpggaa

namespace Go.Proofs.Ytkiloimggmpggaa
open Go.RowKit Go.Proofs.YtkiloimggmpggaaW.PrintWords Go.Proofs.YtkiloimggmpggaaW.PrintLast Go.Proofs.YtkiloimggmpggaaW.PrintMore
set_option linter.unusedVariables false
set_option linter.unusedSimpArgs false

end Go.Proofs.Ytkiloimggmpggaa

namespace Go.Proofs.Ytkiloimggmpggaa
open Go.RowKit Go.Proofs.YtkiloimggmpggaaW.PrintWords Go.Proofs.YtkiloimggmpggaaW.PrintLast Go.Proofs.YtkiloimggmpggaaW.PrintMore
set_option linter.unusedVariables false
set_option linter.unusedSimpArgs false

theorem isSquare_1.calls (x : List Int) (A : Option Addr) (c : Nat) (b n : Nat) (A2 : Option Addr) (c2 : Nat) (W : World) (hn : n ≤ 9223372036854775807) (hx : x.length ≤ 9223372036854775807) (h : W.cell? ⟨b, 0, none⟩ = some (.slice A2 n c2)) :
  Gives Try.prog 79 #[.slice A x.length c, .pointer (some ⟨b, 0, none⟩)] W (.bool (!(x.length == n))) := by
 unfold Gives
 by_cases he : x.length = n
 ·have h1 : (x.length == n) = true := beq_iff_eq.2 he
  have h2 : (((x.length : Nat) : Int) != (n : Int)) = false := by simp [he]
  go_enter Try.func79, Try.ntmps79
  go_wp2
  go_ret
  exact ⟨by first | rfl | simp_all, Below.refl _ _⟩
 ·have h1 : (x.length == n) = false := beq_eq_false_iff_ne.2 he
  have h2 : (((x.length : Nat) : Int) != (n : Int)) = true := by rw [bne_iff_ne]; omega
  go_enter Try.func79, Try.ntmps79
  go_wp2
  go_ret
  exact ⟨by first | rfl | simp_all, Below.refl _ _⟩

def squareB (l : List (List Int)) : Bool := l.all fun r => r.length == l.length
set_option maxHeartbeats 1000000 in
theorem impl_isSquare.callsG (A0 : Option Addr) (c0 : Nat) (l0 : List (List Int)) (w : World) (hr0 : Kd.C (Kd.slice 3 (Kd.int .i64)) w A0 l0.length l0) (hc0 : l0.length ≤ c0) :
  Calls Try.prog 68 #[.slice A0 l0.length c0] w fun e w' => e = .returned (.bool (squareB l0)) ∧ Below w.heap.size w w' := by
 have eg : ∀ args w, (callFunc 79 args).run Try.prog w = .ok (.enter 79 args) w := enters_of Try.func79 (by kernel_rfl) rfl
 have hB2 : Below w.heap.size w (w.alloc (.cells #[.slice A0 l0.length c0] 22)) := below_alloc (Below.refl _ _) _
 have hx : (w.alloc (.cells #[.slice A0 l0.length c0] 22)).cell? ⟨w.heap.size, 0, none⟩ = some (.slice A0 l0.length c0) := by rw [World.cell?_alloc_at _ _ _ _ rfl]; rfl
 have hcon := slices_ContainsFunc_rows.calls 79 #[.pointer (some ⟨w.heap.size, 0, none⟩)] (fun x => !(x.length == l0.length)) A0 c0 l0 (w.alloc (.cells #[.slice A0 l0.length c0] 22)) eg
  (fun x A c W _ hb hcx _ => isSquare_1.calls x A c _ l0.length A0 c0 W hr0.2.1 hcx.2.1 (pw_cell_below hb hx))
  (Kd.C_below hr0 hB2) hc0
 have hall : squareB l0 = !(l0.any fun x => !(x.length == l0.length)) := all_any l0 _
 clear hr0
 rw [hall]
 clear hall
 generalize (l0.any fun x => !(x.length == l0.length)) = r at hcon ⊢
 have HB := Aside0.mk hB2
 clear hB2
 go_enter Try.func68, Try.ntmps68
 go_wp2_with (go_at_call 69; refine hcon.mono ?_; rintro e w' ⟨rfl, hb⟩)
 go_ret
 exact ⟨rfl, below_then HB.out HB.out.size hb⟩

/-- The sum of the first j numbers. -/
def sumTo (l : List Int) : Nat → Int
 | 0 => 0
 | j + 1 => wrap64 (sumTo l j + rd l j)
def sumW (l : List Int) : Int := sumTo l l.length
theorem impl_sum.calls' (A0 : Option Addr) (c0 : Nat) (l0 : List Int) (w : World) (hr0 : Kd.C (Kd.int .i64) w A0 l0.length l0) :
  Calls Try.prog 76 #[.slice A0 l0.length c0] w fun e w' => e = .returned (.int .i64 (sumW l0)) ∧ w = w' := by
 have hm := hr0.2.1
 have HR0 := Aside0.mk hr0
 clear hr0
 go_enter Try.func76, Try.ntmps76
 go_wp2
 go_loop [3, 5, 8] (fun s3 s5 s8 => ∃ j : Nat, j ≤ l0.length ∧ s8 = .int .i64 j ∧ s3 = .int .i64 (sumTo l0 j)) (fun _ _ s8 => l0.length - (intOf s8).toNat)
 case atStart => exact ⟨0, Nat.zero_le _, rfl, rfl⟩
 case round =>
  obtain ⟨j, hj, rfl, rfl⟩ := hrel
  by_cases hlt : j < l0.length
  ·have hz : (j : Int) < (l0.length : Int) := by omega
   obtain ⟨ad, e0, hx⟩ := Kd.at_int HR0.out j (by omega) hz
   cases e0
   simp only [Int.toNat_natCast] at hx
   have HS := Aside0.mk (show sumTo l0 (j + 1) = wrap64 (sumTo l0 j + rd l0 j) from rfl)
   go_wp2
   go_round
   case rel => exact ⟨j + 1, by omega, by go_num, by rw [HS.out]⟩
   case measure => simp [intOf]; omega
  ·have hz : ¬ (j : Int) < (l0.length : Int) := by omega
   have : j = l0.length := by omega
   subst this
   go_wp2
   go_ret
   exact ⟨rfl, rfl⟩

/-- Do the signs alternate, from sum s on? -/
def altFrom : List Int → Int → Bool
 | [], s => s == 1
 | n :: r, s => inB n (-1) 1 && (inB (s + n) 0 1 && altFrom r (s + n))
def altB (l : List Int) : Bool := altFrom l 0
theorem altFrom_false1 (l : List Int) (j : Nat) (h : j < l.length) (s : Int) (hb : inB (rd l j) (-1) 1 = false) : altFrom (l.drop j) s = false := by
 rw [List.drop_eq_getElem_cons h, altFrom, show l[j] = rd l j by simp [rd, List.getD_eq_getElem?_getD, h], hb]; rfl
theorem altFrom_step (l : List Int) (j : Nat) (h : j < l.length) (s : Int) (hb : inB (rd l j) (-1) 1 = true) : altFrom (l.drop j) s = (inB (s + rd l j) 0 1 && altFrom (l.drop (j + 1)) (s + rd l j)) := by
 rw [List.drop_eq_getElem_cons h, altFrom, show l[j] = rd l j by simp [rd, List.getD_eq_getElem?_getD, h], hb]; rfl
/-- A column of a table. -/
def colTo (m : List (List Int)) (j i : Nat) : List Int := (List.range i).map fun k => rd (m.getD k []) j
def colL (m : List (List Int)) (j : Nat) : List Int := colTo m j m.length
theorem colTo_length (m : List (List Int)) (j i : Nat) : (colTo m j i).length = i := by simp [colTo]
theorem colL_length (m : List (List Int)) (j : Nat) : (colL m j).length = m.length := colTo_length m j _
theorem colTo_succ (m : List (List Int)) (j i : Nat) : colTo m j (i + 1) = colTo m j i ++ [rd (m.getD i []) j] := by simp [colTo, List.range_succ]
def RetR (w : World) (l : List Int) (e : Ending) (w' : World) : Prop := ∃ v0_ : Value, e = .returned (v0_) ∧ Kd.R (Kd.int .i64) 3 w' w.heap.size (fun _ => True) v0_ l ∧ Below w.heap.size w w'
set_option maxHeartbeats 4000000 in
theorem impl_column.calls' (A0 : Option Addr) (c0 : Nat) (l0 : List (List Int)) (j : Nat) (w : World) (hr0 : Kd.C (Kd.slice 3 (Kd.int .i64)) w A0 l0.length l0) (hlen : l0.length ≤ 1000000) (hj : ∀ i, i < l0.length → j < (l0.getD i []).length) :
  Calls Try.prog 77 #[.slice A0 l0.length c0, .int .i64 j] w (RetR w (colL l0 j)) := by
 have HR0 := Aside0.mk hr0
 have HJ := Aside0.mk hj
 clear hr0 hj
 have HB := Aside0.mk (Below.refl w.heap.size w)
 go_enter Try.func77, Try.ntmps77
 go_wp2_with ((with_reducible refine gate_dst (N := 8) rfl ?_); refine Kd.R_lit (Kd.int .i64) _ 3 ?hg (N := 8) ?hd (xs := ([] : List Int)) (inner := []) (ok := fun _ => True) (okp := fun _ => True) ?hr ?hp (fun _ hk => hk) trivial (Below.refl _ _) (Nat.le_refl _) (by simp) ?_; (case hd => rfl); (case hg => rfl); (case hr => first | (go_simp; done) | (go_simp; rfl)); (case hp => exact (Reps.none _ _)); intro v1 w3 ho4 hb hg_ hnew_; clear hg_ hnew_; have HO := Aside0.mk (Kd.R_lower ho4 (below_size HB.out)); have HB1 := Aside0.mk (below_step HB.out hb); clear hb ho4 HB)
 go_loopg [5, 7, 11] l0.length (fun gg s5 s7 s11 wr => ∃ i : Nat, i ≤ l0.length ∧ l0.length - i ≤ gg ∧ s11 = .int .i64 i ∧ Aside0 (Kd.R (Kd.int .i64) 3 wr w.heap.size (fun _ => True) s5 (colTo l0 j i)) ∧ Aside0 (Below w.heap.size w wr))
 case atStart => exact ⟨0, Nat.zero_le _, Nat.le_refl _, rfl, HO, HB1⟩
 case round =>
  clear HO HB1
  obtain ⟨i, hi, hg, rfl, HO, HB⟩ := hrel
  by_cases hlt : i < l0.length
  ·have hz : (i : Int) < (l0.length : Int) := by omega
   obtain ⟨ad, A1, c1, e0, hx, hc1, hrow⟩ := rowsAt HR0.out i hlt
   cases e0
   replace hx := pw_cell_below HB.out hx
   have hjr := HJ.out i hlt
   obtain ⟨ad2, e2, hy⟩ := Kd.at_int hrow j (by omega) (by omega)
   cases e2
   replace hy := pw_cell_below HB.out hy
   simp only [Int.toNat_natCast] at hy
   have HS := Aside0.mk (colTo_succ l0 j i)
   obtain ⟨row, hrw⟩ : ∃ r, r = l0.getD i [] := ⟨_, rfl⟩
   rw [← hrw] at hx hy hjr HS
   obtain ⟨x, hxx⟩ : ∃ x, x = rd row j := ⟨_, rfl⟩
   rw [← hxx] at hy HS
   obtain ⟨acc, hacc⟩ : ∃ a, a = colTo l0 j i := ⟨_, rfl⟩
   have hal : acc.length = i := by rw [hacc, colTo_length]
   rw [← hacc] at HO HS
   have HAL := Aside0.mk hal
   have hjz : (j : Int) < (row.length : Int) := by omega
   clear hrw hxx hacc hal hrow hc1
   obtain ⟨v5, hv5⟩ : ∃ v, v = u5 := ⟨_, rfl⟩
   subst hv5
   go_wp2_with ((with_reducible refine gate_builtin (b := .append) (xs := #[.tmp 15, .tmp 20]) rfl ?_); at_builtin; refine Kd.R_append (Kd.int .i64) (w0 := w) w.heap.size rfl (.tmp 15) (.tmp 20) 38 3 (.int .i64 0) 8 rfl Try.underlying38 info_ints rfl (by decide) (by omega) v5 acc x [.int .i64 x] (fun _ => True) (fun _ => False) rfl rfl ?aP (fun _ hk => hk.elim) ?aF ?aO ?aB ?aS ?aL ?_; (case aP => exact rfl); (case aB => exact HB.out); (case aF => exact (fun _ _ => trivial)); (case aO => exact HO.out); (case aS => exact HB.out.size); (case aL => have := HAL.out; omega); intro v6 w8 ho hb hg_ hat; rw [← HS.out] at ho; have HO1 := Aside0.mk ho; have HB1 := Aside0.mk hb; clear ho hb hg_ hat)
   go_roundg (l0.length - (i + 1))
   case measure => omega
   case rel => exact ⟨i + 1, by omega, by omega, by go_num, HO1, HB1⟩
  ·have hz : ¬ (i : Int) < (l0.length : Int) := by omega
   have hil : i = l0.length := by omega
   subst hil
   go_wp2
   go_ret
   exact ⟨_, rfl, HO.out, HB.out⟩


/-- From row and column i on all alternate. -/
def signsFrom (m : List (List Int)) (i : Nat) : Bool := (List.range' i (m.length - i)).all fun i => altB (m.getD i []) && altB (colL m i)
/-- A sign matrix. -/
def isSign (m : List (List Int)) : Bool := inB m.length 1 6 && (squareB m && signsFrom m 0)
theorem isSign_facts {m : List (List Int)} (h : isSign m = true) : 1 ≤ m.length ∧ m.length ≤ 6 ∧ (∀ i, i < m.length → (m.getD i []).length = m.length) ∧ ∀ i, i < m.length → altB (m.getD i []) = true ∧ altB (colL m i) = true := by
 simp only [isSign, Bool.and_eq_true] at h
 have h1 := (inB_iff _ _ _).1 h.1
 refine ⟨by omega, by omega, fun i hi => ?_, fun i hi => ?_⟩
 ·rw [getD_at m [] i hi]
  exact beq_iff_eq.1 (List.all_eq_true.1 h.2.1 _ (List.getElem_mem hi))
 ·have := List.all_eq_true.1 h.2.2 i (by rw [List.mem_range'_1]; omega)
  rwa [Bool.and_eq_true] at this
end Go.Proofs.Ytkiloimggmpggaa

namespace Go.Proofs.Ytkiloimggmpggaa
open Go.RowKit Go.Proofs.YtkiloimggmpggaaW.PrintWords Go.Proofs.YtkiloimggmpggaaW.PrintLast Go.Proofs.YtkiloimggmpggaaW.PrintMore
set_option linter.unusedVariables false
set_option linter.unusedSimpArgs false

/-- The table with f at each place. -/
def rowL (f : Nat → Nat → Int) (i cols : Nat) : List Int := (List.range cols).map (f i)
/-- The table as it is after i rows: rows gs 0 .. gs (i - 1) are whole, the others are not there yet. -/
structure TabAt (w wr : World) (g0 rows cols : Nat) (f : Nat → Nat → Int) (i : Nat) (gs : Nat → Nat) : Prop where
 below : Below w.heap.size w wr
 ge : w.heap.size ≤ g0
 top : rowBlk wr g0 ((List.range i).map (fun k => Value.slice (some ⟨gs k, 0, none⟩) cols cols) ++ List.replicate (rows - i) (.slice none 0 0))
 each : ∀ k, k < i → g0 < gs k ∧ intBlk wr (gs k) (rowL f k cols)
 inj : ∀ k k', k < k' → k' < i → gs k < gs k'

/-- The row i while it is filled: j numbers are there. -/
structure RowAt (w wr : World) (g0 rows cols : Nat) (f : Nat → Nat → Int) (i : Nat) (gs : Nat → Nat) (gi j : Nat) : Prop where
 below : Below w.heap.size w wr
 ge : w.heap.size ≤ g0
 top : rowBlk wr g0 ((List.range i).map (fun k => Value.slice (some ⟨gs k, 0, none⟩) cols cols) ++ (.slice (some ⟨gi, 0, none⟩) cols cols :: List.replicate (rows - (i + 1)) (.slice none 0 0)))
 each : ∀ k, k < i → g0 < gs k ∧ intBlk wr (gs k) (rowL f k cols)
 inj : ∀ k k', k < k' → k' < i → gs k < gs k'
 now : intBlk wr gi ((List.range j).map (f i) ++ List.replicate (cols - j) 0)
 last : ∀ k, k < i → gs k < gi
 gt : g0 < gi

theorem RowAt.mono {w wr wr' : World} {g0 rows cols i gi j : Nat} {f : Nat → Nat → Int} {gs : Nat → Nat} (h : RowAt w wr g0 rows cols f i gs gi j) (hb : Below wr.heap.size wr wr') : RowAt w wr' g0 rows cols f i gs gi j where
 below := below_step h.below hb
 ge := h.ge
 top := blk_below h.top hb
 each := fun k hk => ⟨(h.each k hk).1, blk_below (h.each k hk).2 hb⟩
 inj := h.inj
 now := blk_below h.now hb
 last := h.last
 gt := h.gt

theorem RowAt.drew {w wr : World} {g0 rows cols i gi j : Nat} {f : Nat → Nat → Int} {gs : Nat → Nat} (h : RowAt w wr g0 rows cols f i gs gi j) : RowAt w wr.drew g0 rows cols f i gs gi j where
 below := below_drew h.below
 ge := h.ge
 top := h.top
 each := h.each
 inj := h.inj
 now := h.now
 last := h.last
 gt := h.gt
theorem RowAt.put {w wr : World} {g0 rows cols i gi j : Nat} {f : Nat → Nat → Int} {gs : Nat → Nat} (h : RowAt w wr g0 rows cols f i gs gi j) (hj : j < cols) : RowAt w (wr.setCell ⟨gi, j, none⟩ (.int .i64 (f i j))) g0 rows cols f i gs gi (j + 1) where
 below := h.below.setCell (by have := h.gt; have := h.ge; show _ ≤ gi; omega) _
 ge := h.ge
 top := blk_far h.top (by have := h.gt; show g0 ≠ gi; omega) _
 each := fun k hk => ⟨(h.each k hk).1, blk_far (h.each k hk).2 (by have := h.last k hk; show gs k ≠ gi; omega) _⟩
 inj := h.inj
 now := blk_put h.now j _ (by
  obtain ⟨m, hm⟩ : ∃ m, cols - j = m + 1 := ⟨cols - j - 1, by omega⟩
  rw [hm, show cols - (j + 1) = m by omega]
  simp [List.replicate_succ, List.range_succ, List.set_append])
 last := h.last
 gt := h.gt
theorem RowAt.done {w wr : World} {g0 rows cols i gi : Nat} {f : Nat → Nat → Int} {gs : Nat → Nat} (h : RowAt w wr g0 rows cols f i gs gi cols) (hi : i < rows) : TabAt w wr g0 rows cols f (i + 1) (fun k => if k = i then gi else gs k) where
 below := h.below
 ge := h.ge
 top := by
  have := h.top
  have e : (List.range (i + 1)).map (fun k => Value.slice (some ⟨if k = i then gi else gs k, 0, none⟩) cols cols) = (List.range i).map (fun k => Value.slice (some ⟨gs k, 0, none⟩) cols cols) ++ [.slice (some ⟨gi, 0, none⟩) cols cols] := by
   rw [List.range_succ, List.map_append]
   congr 1
   ·apply List.map_congr_left
    intro k hk
    rw [if_neg (by have := List.mem_range.1 hk; omega)]
   ·simp
  unfold rowBlk
  rw [e, List.append_assoc]
  exact this
 each := fun k hk => by
  by_cases e : k = i
  ·subst e
   rw [if_pos rfl]
   refine ⟨h.gt, ?_⟩
   have := h.now
   simpa [rowL] using this
  ·rw [if_neg e]
   exact h.each k (by omega)
 inj := fun k k' h1 h2 => by
  rw [if_neg (show ¬ k = i by omega)]
  by_cases e : k' = i
  ·rw [if_pos e]; exact h.last k (by omega)
  ·rw [if_neg e]; exact h.inj k k' h1 (by omega)
end Go.Proofs.Ytkiloimggmpggaa

namespace Go.Proofs.Ytkiloimggmpggaa
open Go.RowKit Go.Proofs.YtkiloimggmpggaaW.PrintWords Go.Proofs.YtkiloimggmpggaaW.PrintLast Go.Proofs.YtkiloimggmpggaaW.PrintMore
set_option linter.unusedVariables false
set_option linter.unusedSimpArgs false

/-- From W to W' nothing has changed but the blocks of S, and new ones. -/
structure Touch (W W' : World) (S : Nat → Prop) : Prop where
 os : W'.os = W.os
 tape : W'.tape = W.tape
 output : W'.output = W.output
 kept : Kept W W' S
theorem Touch.of_below {W W' : World} (h : Below W.heap.size W W') (S : Nat → Prop) : Touch W W' S := ⟨h.os, h.tape, h.output, Kept.of_below h S⟩
theorem Touch.refl (W : World) (S : Nat → Prop) : Touch W W S := Touch.of_below (Below.refl _ _) S
theorem Touch.trans {W W1 W2 : World} {S S2 : Nat → Prop} (h : Touch W W1 S) (k : Touch W1 W2 S2) (hs : ∀ k, S2 k → S k ∨ W.heap.size ≤ k) : Touch W W2 S :=
 ⟨k.os.trans h.os, k.tape.trans h.tape, k.output.trans h.output, h.kept.then_ k.kept hs⟩
theorem Touch.mono {W W' : World} {S S' : Nat → Prop} (h : Touch W W' S) (hs : ∀ k, S k → S' k) : Touch W W' S' := ⟨h.os, h.tape, h.output, h.kept.mono hs⟩
theorem Touch.size {W W' : World} {S : Nat → Prop} (h : Touch W W' S) : W.heap.size ≤ W'.heap.size := h.kept.1
theorem Touch.heap {W W' : World} {S : Nat → Prop} (h : Touch W W' S) {k : Nat} (hk : k < W.heap.size) (hn : ¬ S k) : W'.heap[k]? = W.heap[k]? := h.kept.2 k hk hn
theorem Touch.below {B : Nat} {W W' : World} {S : Nat → Prop} (h : Touch W W' S) (hS : ∀ k, S k → B ≤ k) (hB : B ≤ W.heap.size) : Below B W W' :=
 ⟨h.os, h.tape, h.output, h.kept.1, fun i hi => h.kept.2 i (by omega) (fun hk => by have := hS i hk; omega)⟩
theorem Touch.set {W W1 : World} {S : Nat → Prop} (h : Touch W W1 S) (p : Addr) (hp : S p.block ∨ W.heap.size ≤ p.block) (u : Value) : Touch W (W1.setCell p u) S := by
 refine ⟨?_, ?_, ?_, h.kept.setCell hp u⟩
 ·exact (show (W1.setCell p u).os = W1.os by simp [World.setCell]).trans h.os
 ·exact (show (W1.setCell p u).tape = W1.tape by simp [World.setCell]).trans h.tape
 ·exact (show (W1.setCell p u).output = W1.output by simp [World.setCell]).trans h.output
theorem Touch.F {α : Type} {d : Kd α} {W W' : World} {S ok : Nat → Prop} {A : Option Addr} {n : Nat} {xs : List α} (h : Touch W W' S) (hf : Kd.F d W ok A n xs) (hn : ∀ k, ok k → ¬ S k) : Kd.F d W' ok A n xs := Kd.F_kept hf h.kept hn
/-- A state that a function value writes: St j W ok: j calls have been; its blocks are ok. -/
structure Stays (St : Nat → World → (Nat → Prop) → Prop) : Prop where
 lt : ∀ {j W ok}, St j W ok → ∀ k, ok k → k < W.heap.size
 step : ∀ {j W W' ok}, St j W ok → (∀ k, ok k → W'.heap[k]? = W.heap[k]?) → St j W' ok
theorem Stays.below {St : Nat → World → (Nat → Prop) → Prop} (h : Stays St) {j : Nat} {W W' : World} {ok : Nat → Prop} (hs : St j W ok) (ht : Below W.heap.size W W') : St j W' ok :=
 h.step hs (fun k hk => ht.block k (h.lt hs k hk))
end Go.Proofs.Ytkiloimggmpggaa

namespace Go.Proofs.Ytkiloimggmpggaa
open Go.RowKit Go.Proofs.YtkiloimggmpggaaW.PrintWords Go.Proofs.YtkiloimggmpggaaW.PrintLast Go.Proofs.YtkiloimggmpggaaW.PrintMore
set_option linter.unusedVariables false
set_option linter.unusedSimpArgs false

/-- The sum of the first numbers, with no wrap. -/
def ps (l : List Int) : Nat → Int
 | 0 => 0
 | j + 1 => ps l j + rd l j
theorem alt_from (l : List Int) (h : altB l = true) : ∀ j, j ≤ l.length → altFrom (l.drop j) (ps l j) = true ∧ 0 ≤ ps l j ∧ ps l j ≤ 1
 | 0, _ => ⟨h, by simp [ps], by simp [ps]⟩
 | j + 1, hj => by
  obtain ⟨h1, h2, h3⟩ := alt_from l h j (by omega)
  cases hb : inB (rd l j) (-1) 1 with
  | false => rw [altFrom_false1 l j hj _ hb] at h1; cases h1
  | true =>
   rw [altFrom_step l j hj _ hb, Bool.and_eq_true] at h1
   have h4 := (inB_iff _ _ _).1 h1.1
   exact ⟨h1.2, h4.1, h4.2⟩
theorem alt_ps {l : List Int} (h : altB l = true) {j : Nat} (hj : j ≤ l.length) : 0 ≤ ps l j ∧ ps l j ≤ 1 := (alt_from l h j hj).2
theorem wrap_small {x : Int} (h1 : -1000000000000 ≤ x) (h2 : x ≤ 1000000000000) : wrap64 x = x := by
 simp only [wrap64]; omega
theorem sumTo_ps {l : List Int} (h : altB l = true) : ∀ {j : Nat}, j ≤ l.length → sumTo l j = ps l j
 | 0, _ => rfl
 | j + 1, hj => by
  have h1 := alt_ps h hj
  rw [sumTo, sumTo_ps h (by omega)]
  exact wrap_small (by show _ ≤ ps l (j + 1); omega) (by show ps l (j + 1) ≤ _; omega)
theorem sumTo_take (l : List Int) (j : Nat) : ∀ i, i ≤ j → sumTo (l.take j) i = sumTo l i
 | 0, _ => rfl
 | i + 1, hi => by
  rw [sumTo, sumTo, sumTo_take l j i (by omega)]
  have : rd (l.take j) i = rd l i := by simp [rd, List.getD_eq_getElem?_getD, List.getElem?_take, show i < j by omega]
  rw [this]
theorem sumW_take {l : List Int} (h : altB l = true) {j : Nat} (hj : j ≤ l.length) : sumW (l.take j) = ps l j := by
 unfold sumW
 rw [List.length_take, Nat.min_eq_left hj, sumTo_take l j j (Nat.le_refl _), sumTo_ps h hj]
end Go.Proofs.Ytkiloimggmpggaa

namespace Go.Proofs.Ytkiloimggmpggaa
open Go.RowKit Go.Proofs.YtkiloimggmpggaaW.PrintWords Go.Proofs.YtkiloimggmpggaaW.PrintLast Go.Proofs.YtkiloimggmpggaaW.PrintMore
set_option linter.unusedVariables false
set_option linter.unusedSimpArgs false

/-- The kind at a place, and the table of them. -/
def kF (m : List (List Int)) (i j : Nat) : Int := if rd (m.getD i []) j = 1 then 4 else if rd (m.getD i []) j = -1 then 5 else 2 * ps (m.getD i []) j + ps (colL m j) i
set_option maxHeartbeats 4000000 in
theorem kinds_1.calls (l0 : List (List Int)) (i j b : Nat) (A0 : Option Addr) (c0 : Nat) (W : World) (hs : isSign l0 = true) (hi : i < l0.length) (hj : j < l0.length)
  (hr0 : Kd.C (Kd.slice 3 (Kd.int .i64)) W A0 l0.length l0) (hc0 : l0.length ≤ c0) (hx0 : W.cell? ⟨b, 0, none⟩ = some (.slice A0 l0.length c0)) :
  Gives Try.prog 75 #[.int .i64 i, .int .i64 j, .pointer (some ⟨b, 0, none⟩)] W (.int .i64 (kF l0 i j)) := by
 unfold Gives
 obtain ⟨h1, h2, h3, h4⟩ := isSign_facts hs
 obtain ⟨ad, A1, c1, e0, hx, hc1, hrow⟩ := rowsAt hr0 i hi
 cases e0
 have hjr : j < (l0.getD i []).length := by rw [h3 i hi]; exact hj
 obtain ⟨ad2, e2, hy⟩ := Kd.at_int hrow j (by omega) (by omega)
 cases e2
 have hrl := h3 i hi
 have hcl := colL_length l0 j
 have hsr := sumW_take (h4 i hi).1 (j := j) (by omega)
 have hsc := sumW_take (h4 j hj).2 (j := i) (by omega)
 have hps := alt_ps (h4 i hi).1 (j := j) (by omega)
 have hpc := alt_ps (h4 j hj).2 (j := i) (by omega)
 have hcol := fun W' hb => impl_column.calls' (some ad) c0 l0 j W' (Kd.C_below hr0 hb) (by omega) (fun k hk => by rw [h3 k hk]; exact hj)
 have hsum := fun W' hb => impl_sum.calls' (some ad2) c1 ((l0.getD i []).take j) W' (Kd.C_below (Kd.C_take hrow (by omega)) hb)
 rw [hsr] at hsum
 have htl : ((l0.getD i []).take j).length = j := by rw [List.length_take]; omega
 rw [htl] at hsum
 have HK := Aside0.mk (show kF l0 i j = if rd (l0.getD i []) j = 1 then 4 else if rd (l0.getD i []) j = -1 then 5 else 2 * ps (l0.getD i []) j + ps (colL l0 j) i from rfl)
 have HC := Aside0.mk (show i ≤ (colL l0 j).length by omega)
 obtain ⟨row, hrw⟩ : ∃ r, r = l0.getD i [] := ⟨_, rfl⟩
 rw [← hrw] at hy hx hsum HK hps hjr hc1 hrl
 obtain ⟨x, hxx⟩ : ∃ x, x = rd row j := ⟨_, rfl⟩
 obtain ⟨p, hp⟩ : ∃ x, x = ps row j := ⟨_, rfl⟩
 obtain ⟨q, hq⟩ : ∃ x, x = ps (colL l0 j) i := ⟨_, rfl⟩
 rw [← hxx] at hy HK
 rw [← hp] at hsum HK hps
 rw [← hq] at hsc HK hpc
 simp only [Int.toNat_natCast] at hy
 have hiz : (i : Int) < (l0.length : Int) := by omega
 have hjz : (j : Int) < (row.length : Int) := by omega
 have hjc : j ≤ c1 := by omega
 have HB0 := Aside0.mk (Below.refl W.heap.size W)
 have HSC := Aside0.mk hsc
 obtain ⟨hp0, hp1⟩ := hps
 obtain ⟨hq0, hq1⟩ := hpc
 clear hrw hxx hp hq hrow hr0 h1 h3 h4 hsr htl hs hrl hcl hsc
 by_cases e1 : x = 1
 ·have HE := Aside0.mk (show kF l0 i j = 4 by rw [HK.out, if_pos e1])
  subst e1
  clear HK
  go_enter Try.func75, Try.ntmps75
  go_wp2
  go_ret
  exact ⟨by rw [HE.out]; rfl, Below.refl _ _⟩
 ·have hx1 : (x == 1) = false := by rw [beq_eq_false_iff_ne]; exact e1
  by_cases e2 : x = -1
  ·have HE := Aside0.mk (show kF l0 i j = 5 by rw [HK.out, if_neg e1, if_pos e2])
   subst e2
   clear HK
   go_enter Try.func75, Try.ntmps75
   go_wp2
   go_ret
   exact ⟨by rw [HE.out]; rfl, Below.refl _ _⟩
  ·have hx2 : (x == -1) = false := by rw [beq_eq_false_iff_ne]; exact e2
   have HE := Aside0.mk (show kF l0 i j = 2 * p + q by rw [HK.out, if_neg e1, if_neg e2])
   have HE1 := Aside0.mk (show kF l0 i j = IntKind.i64.wrap (2 * p) + q by rw [HE.out, i64_w, wrap_small (by omega) (by omega)])
   have HE2 := Aside0.mk (show kF l0 i j = IntKind.i64.wrap (IntKind.i64.wrap (2 * p) + q) by rw [← HE1.out, HE.out, i64_w, wrap_small (by omega) (by omega)])
   clear HK e1 e2
   go_enter Try.func75, Try.ntmps75
   go_wp2
   go_region_with (first | (go_at_call 77; refine (hcol _ (below_drew HB0.out)).mono ?_; rintro e w2 ⟨v, rfl, hR, hb⟩; have HB2 := Aside0.mk (below_step (below_drew HB0.out) hb); obtain ⟨A2, c2, rfl⟩ := Kd.R_slice hR; have hq := Kd.R_reads' hR; have hsum2 := impl_sum.calls' A2 c2 ((colL l0 j).take i) w2 (Kd.C_take hq.2.2 HC.out); rw [HSC.out, List.length_take, Nat.min_eq_left HC.out] at hsum2; have hcc := hq.2.1; have hic := HC.out; have hicc : i ≤ c2 := (by omega); clear hR hb hq) | (go_at_call 76; (with_reducible refine (hsum _ (by repeat (first | exact HB0.out | apply below_drew))).mono ?_); rintro e w1 ⟨rfl, rfl⟩) | (go_at_call 76; refine hsum2.mono ?_; rintro e w1 ⟨rfl, rfl⟩))
   all_goals
    go_wp2
    go_ret
    exact ⟨by first | (rw [HE1.out]; rfl) | (rw [HE2.out]; rfl) | (rw [HE.out]; rfl), HB2.out⟩

end Go.Proofs.Ytkiloimggmpggaa

namespace Go.Proofs.Ytkiloimggmpggaa
open Go.RowKit Go.Proofs.YtkiloimggmpggaaW.PrintWords Go.Proofs.YtkiloimggmpggaaW.PrintLast Go.Proofs.YtkiloimggmpggaaW.PrintMore
set_option linter.unusedVariables false

end Go.Proofs.Ytkiloimggmpggaa

namespace Go.Proofs.Ytkiloimggmpggaa
open Go.RowKit Go.Proofs.YtkiloimggmpggaaW.PrintWords Go.Proofs.YtkiloimggmpggaaW.PrintLast Go.Proofs.YtkiloimggmpggaaW.PrintMore
set_option linter.unusedVariables false

end Go.Proofs.Ytkiloimggmpggaa

namespace Go.Proofs.Ytkiloimggmpggaa
open Go.RowKit Go.Proofs.YtkiloimggmpggaaW.PrintWords Go.Proofs.YtkiloimggmpggaaW.PrintLast Go.Proofs.YtkiloimggmpggaaW.PrintMore
set_option linter.unusedVariables false
set_option linter.unusedSimpArgs false

end Go.Proofs.Ytkiloimggmpggaa
