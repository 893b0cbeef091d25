/- Texts of one chain, in build order. -/
import Derived.Test.YthbkjaieenochaaProg
import Derived.Below
import Derived.Deep.Draws
import Derived.Deep.AppendLies
import Derived.Maps.AppendAt
import Derived.OwnWalk
import Derived.Laws.BytesArg
import Derived.Laws.MakeOwn
import Derived.Laws.OwnMore
import Derived.Deep.OwnRows
import Derived.Tactics
import Derived.Lib.ConvBytes
import Derived.Laws.Slices
import Derived.WalkKit
import Derived.KernelRfl
import Derived.RowKit3
import Derived.Deep.LoopGhost
import Derived.Deep.QuietTactic
import Derived.BigQuiet
import Derived.WideLaws
import Derived.Deep.DeepCutAuto
import Derived.Deep.CutBlock
import Derived.Deep.RegionHeld3
import Derived.Laws.Rows
import Derived.Lib.AppendStr
import Derived.ArgAppend
import Derived.Laws.IdiomCopy
import Derived.OrdersHeld
import Derived.Laws.BitsLemmas
import Derived.RowKit
import Derived.Shelf.Abstract
import Derived.Test.YthbkjaieenochaaWMore
import Derived.Test.YthbkjaieenochaaWTab
import Derived.Test.YthbkjaieenochaaWFour
import Derived.WalkSpells
import Derived.Test.YthbkjaieenochaaWKept
import Derived.Test.YthbkjaieenochaaWApart
import Derived.Lib.SliceRun
import Derived.Test.YthbkjaieenochaaWShare
namespace Go.Proofs.Ythbkjaieenochaa
open Go.RowKit Go.Proofs.YthbkjaieenochaaW.PrintWords Go.Proofs.YthbkjaieenochaaW.PrintLast Go.Proofs.YthbkjaieenochaaW.PrintMore
set_option linter.unusedVariables false
set_option linter.unusedSimpArgs false

/-- The place of the first element for which p holds, from k on; -1 if there is none. -/
def idxFrom {α : Type} (p : α → Bool) : Nat → List α → Int
 | _, [] => -1
 | k, x :: r => if p x then (k : Int) else idxFrom p (k + 1) r
def idxOf {α : Type} (p : α → Bool) (l : List α) : Int := idxFrom p 0 l
theorem idxFrom_hit {α : Type} (p : α → Bool) (l : List α) : ∀ (m kk : Nat) (h : kk < l.length), (∀ j (hj : j < kk), p (l[j]'(by omega)) = false) → p l[kk] = true → idxFrom p m l = ((m + kk : Nat) : Int) := by
 induction l with
 | nil => intro m kk h; exact absurd h (by simp)
 | cons x r ih =>
  intro m kk h hn hy
  cases kk with
  | zero => simp only [List.getElem_cons_zero] at hy; simp [idxFrom, hy]
  | succ kk =>
   have h0 := hn 0 (by omega)
   simp only [List.getElem_cons_zero] at h0
   simp only [List.getElem_cons_succ] at hy
   have := ih (m + 1) kk (by simpa using h) (fun j hj => by have := hn (j + 1) (by omega); simpa using this) hy
   rw [idxFrom, if_neg (by simp [h0]), this]
   omega
theorem idxFrom_miss {α : Type} (p : α → Bool) (l : List α) : ∀ (m : Nat), (∀ j (hj : j < l.length), p l[j] = false) → idxFrom p m l = -1 := by
 induction l with
 | nil => intro m h; rfl
 | cons x r ih =>
  intro m hn
  have h0 := hn 0 (by simp)
  simp only [List.getElem_cons_zero] at h0
  rw [idxFrom, if_neg (by simp [h0])]
  exact ih (m + 1) (fun j hj => by have := hn (j + 1) (by simpa using hj); simpa using this)
theorem idxFrom_any {α : Type} (p : α → Bool) (l : List α) : ∀ m : Nat, decide (0 ≤ idxFrom p m l) = l.any p := by
 induction l with
 | nil => intro m; rfl
 | cons x r ih =>
  intro m
  rw [idxFrom]
  cases h : p x with
  | true => simp [h]
  | false => simp [h, ih (m + 1)]
theorem idxOf_any {α : Type} (p : α → Bool) (l : List α) : decide (0 ≤ idxOf p l) = l.any p := idxFrom_any p l 0

/-- A call of g in a later world answers a bool, and turns nothing. -/
def Gives (P : Program) (g : Nat) (args : Array Value) (W : World) (res : Value) : Prop :=
 Calls P g args W fun e W' => e = .returned res ∧ Below W.heap.size W W'

set_option maxHeartbeats 2000000 in
theorem slices_IndexFunc_int.calls (g : Nat) (lb : Array Value) (p : Int → Bool) (A0 : Option Addr) (c0 : Nat) (l0 : List Int) (w : World)
  (eg : ∀ args w, (callFunc g args).run Try.prog w = .ok (.enter g args) w)
  (hp : ∀ (x : Int) (W : World), x ∈ l0 → Below w.heap.size w W → Gives Try.prog g (#[.int .i64 x] ++ lb) W (.bool (p x)))
  (hr0 : Kd.C (Kd.int .i64) w A0 l0.length l0) (hc0 : l0.length ≤ c0) :
  Calls Try.prog 114 #[.slice A0 l0.length c0, .func (.func g) #[] lb] w fun e w' => e = .returned (.int .i64 (idxOf p l0)) ∧ Below w.heap.size w w' := by
 have hm := hr0.2.1
 have HR0 := Aside0.mk hr0
 have HP := Aside0.mk hp
 clear hr0 hc0 hp
 have hm1 : l0.length ≤ 9223372036854775807 := hm
 go_enter Try.func114, Try.ntmps114
 go_wp2
 go_loopg [5, 8] l0.length (fun gg _ s8 wr => ∃ kk : Nat, kk ≤ l0.length ∧ l0.length - kk ≤ gg ∧ s8 = .int .i64 kk ∧ Aside0 (Below w.heap.size w wr) ∧ Aside0 (∀ j (hj : j < l0.length), j < kk → p l0[j] = false))
 case atStart => exact ⟨0, Nat.zero_le _, by omega, rfl, ⟨Below.refl _ _⟩, ⟨fun j _ hj => absurd hj (Nat.not_lt_zero _)⟩⟩
 case round =>
  obtain ⟨kk, hkk, hg, rfl, HB, HN⟩ := hrel
  by_cases hlt : kk < l0.length
  ·have hltz : (kk : Int) < (l0.length : Int) := by omega
   obtain ⟨ad, e0, hx⟩ := Kd.at_int HR0.out kk (by omega) hltz
   cases e0
   replace hx := pw_cell_below HB.out hx
   have hrd : rd l0 kk = l0[kk] := by simp [rd, List.getD_eq_getElem?_getD, hlt]
   rw [hrd] at hx
   have hcall := HP.out l0[kk] wr (List.getElem_mem hlt) HB.out
   generalize hy : l0[kk] = y at hx hcall
   have HY := Aside0.mk hy
   clear hy
   simp only [Int.toNat_natCast] at hx
   cases hq : p y with
   | true =>
    rw [hq] at hcall
    have HQ := Aside0.mk hq
    clear hq
    go_wp2_with (go_at_fn g; refine (hcall).mono ?_; rintro e w' ⟨rfl, hb⟩)
    go_ret
    refine ⟨?_, below_then HB.out HB.out.size hb⟩
    unfold idxOf
    rw [idxFrom_hit p l0 0 kk hlt (fun j hj => HN.out j (by omega) hj) (by rw [HY.out]; exact HQ.out), Nat.zero_add]
    rfl
   | false =>
    rw [hq] at hcall
    have HQ := Aside0.mk hq
    clear hq
    go_wp2_with (go_at_fn g; refine (hcall).mono ?_; rintro e w' ⟨rfl, hb⟩)
    go_roundg (l0.length - (kk + 1))
    case measure => omega
    case rel =>
     refine ⟨kk + 1, by omega, by omega, by go_num, ⟨below_then HB.out HB.out.size hb⟩, ⟨fun j hj hjk => ?_⟩⟩
     by_cases e : j = kk
     ·subst e
      rw [HY.out]; exact HQ.out
     ·exact HN.out j hj (by omega)
  ·have hltz : ¬ (kk : Int) < (l0.length : Int) := by omega
   go_wp2
   go_ret
   refine ⟨?_, HB.out⟩
   unfold idxOf
   rw [idxFrom_miss p l0 0 (fun j hj => HN.out j hj (by omega))]
   rfl
set_option maxHeartbeats 2000000 in
theorem slices_ContainsFunc_int.calls (g : Nat) (lb : Array Value) (p : Int → Bool) (A0 : Option Addr) (c0 : Nat) (l0 : List Int) (w : World)
  (eg : ∀ args w, (callFunc g args).run Try.prog w = .ok (.enter g args) w)
  (hp : ∀ (x : Int) (W : World), x ∈ l0 → Below w.heap.size w W → Gives Try.prog g (#[.int .i64 x] ++ lb) W (.bool (p x)))
  (hr0 : Kd.C (Kd.int .i64) w A0 l0.length l0) (hc0 : l0.length ≤ c0) :
  Calls Try.prog 106 #[.slice A0 l0.length c0, .func (.func g) #[] lb] w fun e w' => e = .returned (.bool (l0.any p)) ∧ Below w.heap.size w w' := by
 rw [← idxOf_any]
 have hcon := slices_IndexFunc_int.calls g lb p A0 c0 l0 w eg hp hr0 hc0
 clear hp hr0
 generalize idxOf p l0 = r at hcon ⊢
 go_enter Try.func106, Try.ntmps106
 go_wp2_with (go_at_call 114; refine hcon.mono ?_; rintro e w' ⟨rfl, hb⟩)
 go_ret
 exact ⟨rfl, hb⟩
end Go.Proofs.Ythbkjaieenochaa

namespace Go.Proofs.Ythbkjaieenochaa
open Go.RowKit Go.Proofs.YthbkjaieenochaaW.PrintWords Go.Proofs.YthbkjaieenochaaW.PrintLast Go.Proofs.YthbkjaieenochaaW.PrintMore
set_option linter.unusedVariables false
set_option linter.unusedSimpArgs false

theorem all_any {α : Type} (l : List α) (p : α → Bool) : (l.all fun x => p x) = !(l.any fun x => !(p x)) := by
 induction l with
 | nil => rfl
 | cons x r ih => simp [ih]
def inB (n lo hi : Int) : Bool := decide (lo ≤ n) && decide (n ≤ hi)
theorem inB_iff (n lo hi : Int) : inB n lo hi = true ↔ lo ≤ n ∧ n ≤ hi := by simp [inB]

def impl_within.f (a0 a1 a2 : Int) : Option Bool := some (inB a0 a1 a2)
theorem impl_within.calls (a0 : Int) (a1 : Int) (a2 : Int) (r : Bool) (w : World) (h : impl_within.f a0 a1 a2 = some r) :
  Calls Try.prog 49 #[.int .i64 a0, .int .i64 a1, .int .i64 a2] w fun e w' => e = .returned (.bool r) ∧ Drawn0 w w' := by
 obtain rfl := Option.some.inj h
 clear h
 by_cases h1 : a1 ≤ a0
 ·have d1 : decide (a1 ≤ a0) = true := decide_eq_true h1
  by_cases h2 : a0 ≤ a2
  ·have d2 : decide (a0 ≤ a2) = true := decide_eq_true h2
   have hr : inB a0 a1 a2 = true := by simp [inB, h1, h2]
   rw [hr]; clear hr
   go_enter Try.func49, Try.ntmps49
   go_wp2
   go_ret
   exact ⟨by first | rfl | (simp; done) | (simp [*]; done), Drawn0.refl _⟩
  ·have d2 : decide (a0 ≤ a2) = false := decide_eq_false h2
   have hr : inB a0 a1 a2 = false := by simp [inB, h1]; omega
   rw [hr]; clear hr
   go_enter Try.func49, Try.ntmps49
   go_wp2
   go_ret
   exact ⟨by first | rfl | (simp; done) | (simp [*]; done), Drawn0.refl _⟩
 ·have d1 : decide (a1 ≤ a0) = false := decide_eq_false h1
  have hr : inB a0 a1 a2 = false := by simp [inB]; omega
  rw [hr]; clear hr
  go_enter Try.func49, Try.ntmps49
  go_wp2
  go_ret
  exact ⟨by first | rfl | (simp; done) | (simp [*]; done), Drawn0.refl _⟩

theorem areWithin_1.calls (x lo hi : Int) (b1 b2 : Nat) (W : World) (h1 : W.cell? ⟨b1, 0, none⟩ = some (.int .i64 lo)) (h2 : W.cell? ⟨b2, 0, none⟩ = some (.int .i64 hi)) :
  Gives Try.prog 107 #[.int .i64 x, .pointer (some ⟨b1, 0, none⟩), .pointer (some ⟨b2, 0, none⟩)] W (.bool (!(inB x lo hi))) := by
 unfold Gives
 go_enter Try.func107, Try.ntmps107
 go_wp2_with (go_at_call 49; refine (impl_within.calls x lo hi _ _ rfl).mono ?_; rintro e w' ⟨rfl, hd⟩; have hb := hd.below; clear hd)
 go_ret
 exact ⟨rfl, hb⟩

def impl_areWithin.f (l0 : List Int) (a1 a2 : Int) : Option Bool := some (l0.all fun x => inB x a1 a2)
set_option maxHeartbeats 1000000 in
theorem impl_areWithin.calls (A0 : Option Addr) (c0 : Nat) (l0 : List Int) (a1 : Int) (a2 : Int) (r : Bool) (w : World) (hr0 : Kd.C (Kd.int .i64) w A0 l0.length l0) (hc0 : l0.length ≤ c0) (h : impl_areWithin.f l0 a1 a2 = some r) :
  Calls Try.prog 94 #[.slice A0 l0.length c0, .int .i64 a1, .int .i64 a2] w fun e w' => e = .returned (.bool r) ∧ Below w.heap.size w w' := by
 obtain rfl := Option.some.inj h
 clear h
 have eg : ∀ args w, (callFunc 107 args).run Try.prog w = .ok (.enter 107 args) w := enters_of Try.func107 (by kernel_rfl) rfl
 have hB2 : Below w.heap.size w ((w.alloc (.cells #[.int .i64 a1] 3)).alloc (.cells #[.int .i64 a2] 3)) := below_alloc (below_alloc (Below.refl _ _) _) _
 have hcon := slices_ContainsFunc_int.calls 107 #[.pointer (some ⟨w.heap.size, 0, none⟩), .pointer (some ⟨w.heap.size + 1, 0, none⟩)] (fun x => !(inB x a1 a2)) A0 c0 l0 ((w.alloc (.cells #[.int .i64 a1] 3)).alloc (.cells #[.int .i64 a2] 3)) eg
  (fun x W _ hb => areWithin_1.calls x a1 a2 _ _ W (pw_cell_below hb (by rw [World.cell?_alloc_past _ _ _ (by simp), World.cell?_alloc_at _ _ _ _ rfl]; rfl)) (pw_cell_below hb (by rw [World.cell?_alloc_at _ _ _ _ (by simp)]; rfl)))
  (Kd.C_below hr0 hB2) hc0
 clear hr0 hc0
 have hall : (l0.all fun x => inB x a1 a2) = !(l0.any fun x => !(inB x a1 a2)) := all_any l0 _
 rw [hall]
 clear hall
 generalize (l0.any fun x => !(inB x a1 a2)) = r at hcon ⊢
 have HB := Aside0.mk hB2
 clear hB2
 go_enter Try.func94, Try.ntmps94
 go_wp2_with (go_at_call 106; refine hcon.mono ?_; rintro e w' ⟨rfl, hb⟩)
 go_ret
 exact ⟨rfl, below_then HB.out HB.out.size hb⟩
end Go.Proofs.Ythbkjaieenochaa

namespace Go.Proofs.Ythbkjaieenochaa
open Go.RowKit Go.Proofs.YthbkjaieenochaaW.PrintWords Go.Proofs.YthbkjaieenochaaW.PrintLast Go.Proofs.YthbkjaieenochaaW.PrintMore
set_option linter.unusedVariables false
set_option linter.unusedSimpArgs false

theorem info_int : (Try.prog.info? 3).map (fun i => (i.zero, i.size, i.bytes)) = some (some (.int .i64 0), 1, 8) := by kernel_rfl

def slices_Clone_int_int.f (l0 : List Int) : Option (List Int) := if l0.length < 17592186044416 then some l0 else none
set_option maxHeartbeats 2000000 in
theorem slices_Clone_int_int.calls (A0 : Option Addr) (c0 : Nat) (l0 : List Int) (r : List Int) (w : World) (hr0 : Kd.C (Kd.int .i64) w A0 l0.length l0) (hc0 : l0.length ≤ c0) (h : slices_Clone_int_int.f l0 = some r) :
  Calls Try.prog 100 #[.slice A0 l0.length c0] w fun e w' => ∃ v0_ : Value, e = .returned (v0_) ∧ Kd.R (Kd.int .i64) 3 w' w.heap.size (fun _ => True) v0_ r ∧ Below w.heap.size w w' := by
 unfold slices_Clone_int_int.f at h
 by_cases hlim : l0.length < 17592186044416
 ·rw [if_pos hlim] at h
  obtain rfl := Option.some.inj h
  clear h
  have LM := Aside0.mk hlim
  clear hlim
  have HR0 := Aside0.mk hr0
  clear hr0 hc0
  have hnil := fun (W : World) (n c n' c' : Nat) => Lib.run_eql_slice_nil (P := Try.prog) W 28 3 A0 n c n' c' Try.underlying28
  cases A0 with
  | none =>
   have hl : l0.length = 0 := by
    rcases Nat.eq_zero_or_pos l0.length with h | h
    ·exact h
    ·obtain ⟨ad, e, _⟩ := HR0.out.2.2 h
     cases e
   have hl2 : l0 = [] := List.eq_nil_of_length_eq_zero hl
   subst hl2
   clear hl
   go_enter Try.func100, Try.ntmps100
   go_wp2
   go_ret
   exact ⟨_, rfl, Kd.R_nil _ _ _ _ _, Below.refl _ _⟩
  | some a =>
   have HB := Aside0.mk (Below.refl w.heap.size w)
   go_enter Try.func100, Try.ntmps100
   go_wp2_with (first | ((with_reducible refine gate_dst (N := 5) rfl ?_); refine Kd.R_lit (Kd.int .i64) _ 3 ?hg (N := 5) ?hd (xs := ([] : List Int)) (inner := []) (ok := fun _ => True) (okp := fun _ => True) ?hr ?hp (fun _ hk => hk) trivial (Below.refl _ _) (Nat.le_refl _) (by simp) ?_; (case hd => rfl); (case hg => rfl); (case hr => first | (go_simp; done) | (go_simp; rfl)); (case hp => exact (Reps.none _ _)); intro v102 w3 ho4 hb hg_ hnew_; clear hg_ hnew_; have HO := Aside0.mk (Kd.R_lower ho4 (below_size HB.out)); have HB1 := Aside0.mk (below_step HB.out hb); clear hb ho4 HB) | ((with_reducible refine gate_builtin (b := .append) (xs := #[.tmp 5, .tmp 6]) rfl ?_); at_builtin; refine Kd.R_append_rows (Kd.int .i64) (w0 := w) w.heap.size rfl (.tmp 5) (.tmp 6) 28 3 (.int .i64 0) 8 rfl Try.underlying28 info_int rfl (by decide) (by omega) v102 [] l0 _ _ _ (fun _ => True) (fun _ => False) rfl rfl HO.out (Kd.C_below HR0.out HB1.out) (fun _ _ h => h) (fun _ h => h.elim) (fun _ _ => trivial) HB1.out (below_size HB1.out) (by have := LM.out; simp; omega) ?_; intro v105 w5 ho hb hg hat; have HO2 := Aside0.mk ho; have HB2 := Aside0.mk hb; clear ho hb hg hat))
   go_ret
   exact ⟨_, rfl, HO2.out, HB2.out⟩
 ·rw [if_neg hlim] at h
  cases h

end Go.Proofs.Ythbkjaieenochaa

namespace Go.Proofs.Ythbkjaieenochaa
open Go.RowKit Go.Proofs.YthbkjaieenochaaW.PrintWords Go.Proofs.YthbkjaieenochaaW.PrintLast Go.Proofs.YthbkjaieenochaaW.PrintMore
set_option linter.unusedVariables false
set_option linter.unusedSimpArgs false

/-- A block of whole numbers. -/
def intBlk (W : World) (g : Nat) (l : List Int) : Prop := W.heap[g]? = some (.cells (l.map (Value.int .i64)).toArray 3 (0, 0))
/-- A block of rows, each in a block of its own. -/
def rowBlk (W : World) (g : Nat) (cs : List Value) : Prop := W.heap[g]? = some (.cells cs.toArray 28 (0, 0))

theorem intBlk_R {W : World} {base g : Nat} {ok : Nat → Prop} {l : List Int} (h : intBlk W g l) (hb : base ≤ g) (hok : ok g) (hl : l.length ≤ 1000000000000000) :
  Kd.R (Kd.int .i64) 3 W base ok (.slice (some ⟨g, 0, none⟩) l.length l.length) l := by
 refine ⟨fun k hk => ?_, l.map (Value.int .i64), ⟨by simp [Kd.int, Kd.scalar], .inr ⟨g, l.length, _, rfl, hb, h, Nat.le_refl _, by unfold maxLen; omega, by simp [Kd.int, Kd.scalar], by simp [Kd.int, Kd.scalar]; exact List.take_of_length_le (by simp)⟩⟩, ?_⟩
 ·have : g = k := by simpa [Value.ownBlock] using hk
  exact this ▸ hok
 ·refine ⟨by simp [Kd.int, Kd.scalar], fun j p hj => ?_⟩
  have hj2 : j < l.length := (List.getElem?_eq_some_iff.1 hj).1
  have hp : l[j] = p := (List.getElem?_eq_some_iff.1 hj).2
  show ((l.map (Value.int .i64)).drop (j * 1)).take 1 = [Value.int .i64 p]
  rw [Nat.mul_one, List.drop_eq_getElem_cons (by simpa using hj2)]
  simp [hp]

theorem rows_S {W : World} {base g0 : Nat} {gs : Nat → Nat} {xss : List (List Int)} (hn : xss.length ≤ 1000000000000000) (hb : base ≤ g0)
  (h0 : rowBlk W g0 ((List.range xss.length).map fun k => Value.slice (some ⟨gs k, 0, none⟩) (xss.getD k []).length (xss.getD k []).length))
  (hk : ∀ k, k < xss.length → base ≤ gs k ∧ gs k ≠ g0 ∧ (xss.getD k []).length ≤ 1000000000000000 ∧ intBlk W (gs k) (xss.getD k []))
  (hinj : ∀ k k', k < xss.length → k' < xss.length → gs k = gs k' → k = k') :
  Kd.S (Kd.slice 3 (Kd.int .i64)) 28 W base (fun _ => True) (.slice (some ⟨g0, 0, none⟩) xss.length xss.length) xss := by
 refine ⟨fun b => ((List.range xss.length).find? (fun k => gs k == b)).getD 0, fun k _ => trivial, (List.range xss.length).map fun k => Value.slice (some ⟨gs k, 0, none⟩) (xss.getD k []).length (xss.getD k []).length, ?_, ?_⟩
 ·rw [List.length_zipIdx]
  exact ⟨by simp [Kd.tag, Kd.slice], .inr ⟨g0, xss.length, _, rfl, hb, h0, Nat.le_refl _, by unfold maxLen; omega, by simp [Kd.tag, Kd.slice], by simp [Kd.tag, Kd.slice]; exact List.take_of_length_le (by simp)⟩⟩
 ·refine ⟨by simp [Kd.tag, Kd.slice], fun j p hj => ?_⟩
  have hj2 : j < xss.length := by have := (List.getElem?_eq_some_iff.1 hj).1; simpa using this
  have hp : p = (xss[j], j) := by
   have := (List.getElem?_eq_some_iff.1 hj).2
   rw [← this]; simp
  subst hp
  obtain ⟨h1, h2, h3, h4⟩ := hk j hj2
  have hg : xss.getD j [] = xss[j] := by simp [List.getD_eq_getElem?_getD, hj2]
  rw [hg] at h3 h4
  have hf : ((List.range xss.length).find? (fun k => gs k == gs j)).getD 0 = j := by
   cases hq : (List.range xss.length).find? (fun k => gs k == gs j) with
   | none =>
    have := List.find?_eq_none.1 hq j (by simpa using hj2)
    simp at this
   | some k =>
    have hm := List.mem_of_find?_eq_some hq
    have hs := List.find?_some hq
    exact hinj k j (by simpa using hm) hj2 (by simpa using hs)
  refine ⟨Value.slice (some ⟨gs j, 0, none⟩) xss[j].length xss[j].length, ?_, intBlk_R h4 h1 ⟨⟨trivial, by simp [Value.ownBlock, h2]⟩, hf⟩ h3⟩
  show (((List.range xss.length).map fun k => Value.slice (some ⟨gs k, 0, none⟩) (xss.getD k []).length (xss.getD k []).length).drop (j * 1)).take 1 = _
  rw [Nat.mul_one, List.drop_eq_getElem_cons (by simpa using hj2)]
  simp [hj2]

/-- A table of whole numbers of the call's own: each row in a block of its own. -/
structure MTab (W : World) (B g0 : Nat) (gs : Nat → Nat) (T : List (List Int)) : Prop where
 ge : B ≤ g0
 top : rowBlk W g0 ((List.range T.length).map fun k => Value.slice (some ⟨gs k, 0, none⟩) (T.getD k []).length (T.getD k []).length)
 each : ∀ k, k < T.length → B ≤ gs k ∧ gs k ≠ g0 ∧ intBlk W (gs k) (T.getD k [])
 inj : ∀ k k', k < T.length → k' < T.length → gs k = gs k' → k = k'
theorem MTab.below {W W' : World} {B g0 : Nat} {gs : Nat → Nat} {T : List (List Int)} (h : MTab W B g0 gs T) (hb : Below W.heap.size W W') : MTab W' B g0 gs T where
 ge := h.ge
 top := blk_below h.top hb
 each := fun k hk => ⟨(h.each k hk).1, (h.each k hk).2.1, blk_below (h.each k hk).2.2 hb⟩
 inj := h.inj
theorem MTab.drew {W : World} {B g0 : Nat} {gs : Nat → Nat} {T : List (List Int)} (h : MTab W B g0 gs T) : MTab W.drew B g0 gs T := h.below (below_drew (Below.refl _ _))
theorem MTab.drewN {W : World} {B g0 : Nat} {gs : Nat → Nat} {T : List (List Int)} (h : MTab W B g0 gs T) (n : Nat) : MTab (W.drewN n) B g0 gs T := h.below (pw_below_drewN (Below.refl _ _) n)
theorem MTab.alloc {W : World} {B g0 : Nat} {gs : Nat → Nat} {T : List (List Int)} (h : MTab W B g0 gs T) (o : Obj) : MTab (W.alloc o) B g0 gs T := h.below (below_alloc (Below.refl _ _) _)
theorem MTab.S {W : World} {B g0 : Nat} {gs : Nat → Nat} {T : List (List Int)} (h : MTab W B g0 gs T) (hn : T.length ≤ 1000000000000000) (hl : ∀ k, k < T.length → (T.getD k []).length ≤ 1000000000000000) :
  Kd.S (Kd.slice 3 (Kd.int .i64)) 28 W B (fun _ => True) (.slice (some ⟨g0, 0, none⟩) T.length T.length) T :=
 rows_S hn h.ge h.top (fun k hk => ⟨(h.each k hk).1, (h.each k hk).2.1, hl k hk, (h.each k hk).2.2⟩) h.inj
theorem MTab.cell {W : World} {B g0 : Nat} {gs : Nat → Nat} {T : List (List Int)} (h : MTab W B g0 gs T) (i j : Nat) (hi : i < T.length) (hj : j < (T.getD i []).length) : W.cell? ⟨gs i, j, none⟩ = some (.int .i64 ((T.getD i []).getD j 0)) := by
 rw [blk_cell (h.each i hi).2.2]
 simp only [List.getElem?_toArray, List.getElem?_map, List.getD_eq_getElem?_getD (l := T.getD i []), List.getElem?_eq_getElem hj, Option.map_some, Option.getD_some]
/-- T with v at (i, j). -/
def putT (T : List (List Int)) (i j : Nat) (v : Int) : List (List Int) := T.set i ((T.getD i []).set j v)
theorem putT_length (T : List (List Int)) (i j : Nat) (v : Int) : (putT T i j v).length = T.length := by simp [putT]
theorem putT_row (T : List (List Int)) (i j : Nat) (v : Int) (k : Nat) : ((putT T i j v).getD k []).length = (T.getD k []).length := by
 unfold putT
 simp only [List.getD_eq_getElem?_getD, List.getElem?_set]
 by_cases h : i = k
 ·subst h
  by_cases h2 : i < T.length
  ·simp [h2]
  ·simp [h2]
 ·simp [h]
theorem MTab.put {W : World} {B g0 : Nat} {gs : Nat → Nat} {T : List (List Int)} (h : MTab W B g0 gs T) (i j : Nat) (hi : i < T.length) (v : Int) : MTab (W.setCell ⟨gs i, j, none⟩ (.int .i64 v)) B g0 gs (putT T i j v) where
 ge := h.ge
 top := by
  have e : (List.range (putT T i j v).length).map (fun k => Value.slice (some ⟨gs k, 0, none⟩) ((putT T i j v).getD k []).length ((putT T i j v).getD k []).length) = (List.range T.length).map fun k => Value.slice (some ⟨gs k, 0, none⟩) (T.getD k []).length (T.getD k []).length := by
   rw [putT_length]
   apply List.map_congr_left
   intro k hk
   rw [putT_row]
  unfold rowBlk
  rw [e]
  exact blk_far h.top (h.each i hi).2.1.symm _
 each := fun k hk => by
  rw [putT_length] at hk
  refine ⟨(h.each k hk).1, (h.each k hk).2.1, ?_⟩
  by_cases e : k = i
  ·subst e
   have e2 : (putT T k j v).getD k [] = (T.getD k []).set j v := by unfold putT; simp [List.getD_eq_getElem?_getD, hk]
   rw [e2]
   exact blk_put (h.each k hk).2.2 j _ (by simp)
  ·have e2 : (putT T i j v).getD k [] = T.getD k [] := by
    unfold putT
    rw [List.getD_eq_getElem?_getD, List.getElem?_set_ne (fun e3 => e e3.symm), List.getD_eq_getElem?_getD]
   rw [e2]
   exact blk_far (h.each k hk).2.2 (fun e3 => e (h.inj k i hk hi e3)) _
 inj := fun k k' hk hk' => h.inj k k' (by rwa [putT_length] at hk) (by rwa [putT_length] at hk')
theorem info_ints : (Try.prog.info? 3).map (fun i => (i.zero, i.size, i.bytes)) = some (some (.int .i64 0), 1, 8) := by kernel_rfl

theorem madeInts (m : Nat) : madeCells #[Value.int .i64 0] m = ((List.replicate m (0 : Int)).map (Value.int .i64)).toArray := by
 apply Array.ext
 ·simp [madeCells]
 ·intro i h1 h2; simp [madeCells, Nat.mod_one]


end Go.Proofs.Ythbkjaieenochaa

namespace Go.Proofs.Ythbkjaieenochaa
open Go.RowKit Go.Proofs.YthbkjaieenochaaW.PrintWords Go.Proofs.YthbkjaieenochaaW.PrintLast Go.Proofs.YthbkjaieenochaaW.PrintMore
set_option linter.unusedVariables false
set_option linter.unusedSimpArgs false

/-- A table of copies while it is filled: i rows are there. -/
structure CopyAt (w wr : World) (g0 : Nat) (T : List (List Int)) (i : Nat) (gs : Nat → Nat) : Prop where
 below : Below w.heap.size w wr
 ge : w.heap.size ≤ g0
 top : rowBlk wr g0 ((List.range i).map (fun k => Value.slice (some ⟨gs k, 0, none⟩) (T.getD k []).length (T.getD k []).length) ++ List.replicate (T.length - i) (.slice none 0 0))
 each : ∀ k, k < i → g0 < gs k ∧ intBlk wr (gs k) (T.getD k [])
 inj : ∀ k k', k < k' → k' < i → gs k < gs k'
theorem CopyAt.drew {w wr : World} {g0 i : Nat} {T : List (List Int)} {gs : Nat → Nat} (h : CopyAt w wr g0 T i gs) : CopyAt w wr.drew g0 T i gs where
 below := below_drew h.below
 ge := h.ge
 top := h.top
 each := h.each
 inj := h.inj
theorem CopyAt.mono {w wr wr' : World} {g0 i : Nat} {T : List (List Int)} {gs : Nat → Nat} (h : CopyAt w wr g0 T i gs) (hb : Below wr.heap.size wr wr') : CopyAt w wr' g0 T i gs where
 below := below_step h.below hb
 ge := h.ge
 top := blk_below h.top hb
 each := fun k hk => ⟨(h.each k hk).1, blk_below (h.each k hk).2 hb⟩
 inj := h.inj
theorem CopyAt.cell {w wr : World} {g0 i : Nat} {T : List (List Int)} {gs : Nat → Nat} (h : CopyAt w wr g0 T i gs) (hi : i < T.length) : wr.cell? ⟨g0, i, none⟩ = some (.slice none 0 0) := by
 rw [blk_cell h.top]
 obtain ⟨m, hm⟩ : ∃ m, T.length - i = m + 1 := ⟨T.length - i - 1, by omega⟩
 simp [hm, List.replicate_succ]
theorem rowsAt {w : World} {A : Option Addr} {n : Nat} {xs : List (List Int)} (h : Kd.C (Kd.slice 3 (Kd.int .i64)) w A n xs) (i : Nat) (h1 : i < n) : ∃ ad A0 c0, A = some ad ∧ w.cell? (ad.add i) = some (.slice A0 (xs.getD i []).length c0) ∧ (xs.getD i []).length ≤ c0 ∧ (Kd.int .i64).C w A0 (xs.getD i []).length (xs.getD i []) := by
 obtain ⟨ad, c, e, _, hK, hc0⟩ := Kd.C_get h ([] : List Int) (i : Int) (by omega) (by omega)
 obtain ⟨A0, c0, rfl, l0, g0⟩ := hK
 have hq := hc0 0 _ rfl
 simp only [Int.toNat_natCast] at hq l0 g0
 exact ⟨ad, A0, c0, e, by have : (Kd.slice 3 (Kd.int .i64)).sz = 1 := rfl; rw [this, Nat.mul_one, Nat.add_zero] at hq; exact hq, l0, g0⟩

def rowsOk (T : List (List Int)) : Prop := T.length ≤ 11728124029610 ∧ ∀ r ∈ T, r.length ≤ 17592186044416
theorem rowsOk.at_ {T : List (List Int)} (h : rowsOk T) (i : Nat) : (T.getD i []).length ≤ 17592186044416 := by
 rw [List.getD_eq_getElem?_getD]
 rcases Nat.lt_or_ge i T.length with hi | hi
 ·rw [List.getElem?_eq_getElem hi]; exact h.2 _ (List.getElem_mem hi)
 ·rw [List.getElem?_eq_none hi]; simp
end Go.Proofs.Ythbkjaieenochaa

namespace Go.Proofs.Ythbkjaieenochaa
open Go.RowKit Go.Proofs.YthbkjaieenochaaW.PrintWords Go.Proofs.YthbkjaieenochaaW.PrintLast Go.Proofs.YthbkjaieenochaaW.PrintMore
set_option linter.unusedVariables false
set_option linter.unusedSimpArgs false

theorem getD_at {α : Type} (l : List α) (d : α) (i : Nat) (h : i < l.length) : l.getD i d = l[i] := by simp [List.getD_eq_getElem?_getD, h]
set_option maxHeartbeats 2000000 in
theorem slices_IndexFunc_rows.calls (g : Nat) (lb : Array Value) (p : List Int → Bool) (A0 : Option Addr) (c0 : Nat) (l0 : List (List Int)) (w : World)
  (eg : ∀ args w, (callFunc g args).run Try.prog w = .ok (.enter g args) w)
  (hp : ∀ (x : List Int) (A : Option Addr) (c : Nat) (W : World), x ∈ l0 → Below w.heap.size w W → Kd.C (Kd.int .i64) W A x.length x → x.length ≤ c → Gives Try.prog g (#[.slice A x.length c] ++ lb) W (.bool (p x)))
  (hr0 : Kd.C (Kd.slice 3 (Kd.int .i64)) w A0 l0.length l0) (hc0 : l0.length ≤ c0) :
  Calls Try.prog 88 #[.slice A0 l0.length c0, .func (.func g) #[] lb] w fun e w' => e = .returned (.int .i64 (idxOf p l0)) ∧ Below w.heap.size w w' := by
 have hm := hr0.2.1
 have HR0 := Aside0.mk hr0
 have HP := Aside0.mk hp
 clear hr0 hc0 hp
 have hm1 : l0.length ≤ 9223372036854775807 := hm
 go_enter Try.func88, Try.ntmps88
 go_wp2
 go_loopg [5, 8] l0.length (fun gg _ s8 wr => ∃ kk : Nat, kk ≤ l0.length ∧ l0.length - kk ≤ gg ∧ s8 = .int .i64 kk ∧ Aside0 (Below w.heap.size w wr) ∧ Aside0 (∀ j (hj : j < l0.length), j < kk → p l0[j] = false))
 case atStart => exact ⟨0, Nat.zero_le _, by omega, rfl, ⟨Below.refl _ _⟩, ⟨fun j _ hj => absurd hj (Nat.not_lt_zero _)⟩⟩
 case round =>
  obtain ⟨kk, hkk, hg, rfl, HB, HN⟩ := hrel
  by_cases hlt : kk < l0.length
  ·have hltz : (kk : Int) < (l0.length : Int) := by omega
   obtain ⟨ad, A1, c1, e0, hx, hc1, hrow⟩ := rowsAt HR0.out kk hlt
   cases e0
   replace hx := pw_cell_below HB.out hx
   rw [getD_at l0 [] kk hlt] at hx hc1 hrow
   have hcall := HP.out l0[kk] A1 c1 wr (List.getElem_mem hlt) HB.out (Kd.C_below hrow HB.out) hc1
   generalize hy : l0[kk] = y at hx hcall
   have HY := Aside0.mk hy
   clear hy hrow hc1
   cases hq : p y with
   | true =>
    rw [hq] at hcall
    have HQ := Aside0.mk hq
    clear hq
    go_wp2_with (go_at_fn g; refine (hcall).mono ?_; rintro e w' ⟨rfl, hb⟩)
    go_ret
    refine ⟨?_, below_then HB.out HB.out.size hb⟩
    unfold idxOf
    rw [idxFrom_hit p l0 0 kk hlt (fun j hj => HN.out j (by omega) hj) (by rw [HY.out]; exact HQ.out), Nat.zero_add]
    rfl
   | false =>
    rw [hq] at hcall
    have HQ := Aside0.mk hq
    clear hq
    go_wp2_with (go_at_fn g; refine (hcall).mono ?_; rintro e w' ⟨rfl, hb⟩)
    go_roundg (l0.length - (kk + 1))
    case measure => omega
    case rel =>
     refine ⟨kk + 1, by omega, by omega, by go_num, ⟨below_then HB.out HB.out.size hb⟩, ⟨fun j hj hjk => ?_⟩⟩
     by_cases e : j = kk
     ·subst e
      rw [HY.out]; exact HQ.out
     ·exact HN.out j hj (by omega)
  ·have hltz : ¬ (kk : Int) < (l0.length : Int) := by omega
   go_wp2
   go_ret
   refine ⟨?_, HB.out⟩
   unfold idxOf
   rw [idxFrom_miss p l0 0 (fun j hj => HN.out j hj (by omega))]
   rfl

end Go.Proofs.Ythbkjaieenochaa

namespace Go.Proofs.Ythbkjaieenochaa
open Go.RowKit Go.Proofs.YthbkjaieenochaaW.PrintWords Go.Proofs.YthbkjaieenochaaW.PrintLast Go.Proofs.YthbkjaieenochaaW.PrintMore
set_option linter.unusedVariables false
set_option linter.unusedSimpArgs false

end Go.Proofs.Ythbkjaieenochaa

namespace Go.Proofs.Ythbkjaieenochaa
open Go.RowKit Go.Proofs.YthbkjaieenochaaW.PrintWords Go.Proofs.YthbkjaieenochaaW.PrintLast Go.Proofs.YthbkjaieenochaaW.PrintMore
set_option linter.unusedVariables false
set_option linter.unusedSimpArgs false

theorem isSquare_1.calls (x : List Int) (A : Option Addr) (c : Nat) (b n : Nat) (A2 : Option Addr) (c2 : Nat) (W : World) (hn : n ≤ 9223372036854775807) (hx : x.length ≤ 9223372036854775807) (h : W.cell? ⟨b, 0, none⟩ = some (.slice A2 n c2)) :
  Gives Try.prog 103 #[.slice A x.length c, .pointer (some ⟨b, 0, none⟩)] W (.bool (!(x.length == n))) := by
 unfold Gives
 by_cases he : x.length = n
 ·have h1 : (x.length == n) = true := beq_iff_eq.2 he
  have h2 : (((x.length : Nat) : Int) != (n : Int)) = false := by simp [he]
  go_enter Try.func103, Try.ntmps103
  go_wp2
  go_ret
  exact ⟨by first | rfl | simp_all, Below.refl _ _⟩
 ·have h1 : (x.length == n) = false := beq_eq_false_iff_ne.2 he
  have h2 : (((x.length : Nat) : Int) != (n : Int)) = true := by rw [bne_iff_ne]; omega
  go_enter Try.func103, Try.ntmps103
  go_wp2
  go_ret
  exact ⟨by first | rfl | simp_all, Below.refl _ _⟩

theorem impl_isSide.calls' (n : Int) (w : World) : Calls Try.prog 38 #[.int .i64 n] w fun e w' => e = .returned (.bool (inB n 1 6)) ∧ Drawn0 w w' := by
 go_enter Try.func38, Try.ntmps38
 go_wp2_with (go_at_call 49; refine (impl_within.calls n 1 6 _ _ rfl).mono ?_; rintro e w' ⟨rfl, hd⟩)
 go_ret
 exact ⟨rfl, hd⟩

end Go.Proofs.Ythbkjaieenochaa

namespace Go.Proofs.Ythbkjaieenochaa
open Go.RowKit Go.Proofs.YthbkjaieenochaaW.PrintWords Go.Proofs.YthbkjaieenochaaW.PrintLast Go.Proofs.YthbkjaieenochaaW.PrintMore
set_option linter.unusedVariables false
set_option linter.unusedSimpArgs false

/-- The table with f at each place. -/
def rowL (f : Nat → Nat → Int) (i cols : Nat) : List Int := (List.range cols).map (f i)
/-- The table as it is after i rows: rows gs 0 .. gs (i - 1) are whole, the others are not there yet. -/
structure TabAt (w wr : World) (g0 rows cols : Nat) (f : Nat → Nat → Int) (i : Nat) (gs : Nat → Nat) : Prop where
 below : Below w.heap.size w wr
 ge : w.heap.size ≤ g0
 top : rowBlk wr g0 ((List.range i).map (fun k => Value.slice (some ⟨gs k, 0, none⟩) cols cols) ++ List.replicate (rows - i) (.slice none 0 0))
 each : ∀ k, k < i → g0 < gs k ∧ intBlk wr (gs k) (rowL f k cols)
 inj : ∀ k k', k < k' → k' < i → gs k < gs k'

/-- The row i while it is filled: j numbers are there. -/
structure RowAt (w wr : World) (g0 rows cols : Nat) (f : Nat → Nat → Int) (i : Nat) (gs : Nat → Nat) (gi j : Nat) : Prop where
 below : Below w.heap.size w wr
 ge : w.heap.size ≤ g0
 top : rowBlk wr g0 ((List.range i).map (fun k => Value.slice (some ⟨gs k, 0, none⟩) cols cols) ++ (.slice (some ⟨gi, 0, none⟩) cols cols :: List.replicate (rows - (i + 1)) (.slice none 0 0)))
 each : ∀ k, k < i → g0 < gs k ∧ intBlk wr (gs k) (rowL f k cols)
 inj : ∀ k k', k < k' → k' < i → gs k < gs k'
 now : intBlk wr gi ((List.range j).map (f i) ++ List.replicate (cols - j) 0)
 last : ∀ k, k < i → gs k < gi
 gt : g0 < gi

theorem RowAt.mono {w wr wr' : World} {g0 rows cols i gi j : Nat} {f : Nat → Nat → Int} {gs : Nat → Nat} (h : RowAt w wr g0 rows cols f i gs gi j) (hb : Below wr.heap.size wr wr') : RowAt w wr' g0 rows cols f i gs gi j where
 below := below_step h.below hb
 ge := h.ge
 top := blk_below h.top hb
 each := fun k hk => ⟨(h.each k hk).1, blk_below (h.each k hk).2 hb⟩
 inj := h.inj
 now := blk_below h.now hb
 last := h.last
 gt := h.gt

theorem RowAt.drew {w wr : World} {g0 rows cols i gi j : Nat} {f : Nat → Nat → Int} {gs : Nat → Nat} (h : RowAt w wr g0 rows cols f i gs gi j) : RowAt w wr.drew g0 rows cols f i gs gi j where
 below := below_drew h.below
 ge := h.ge
 top := h.top
 each := h.each
 inj := h.inj
 now := h.now
 last := h.last
 gt := h.gt
theorem RowAt.put {w wr : World} {g0 rows cols i gi j : Nat} {f : Nat → Nat → Int} {gs : Nat → Nat} (h : RowAt w wr g0 rows cols f i gs gi j) (hj : j < cols) : RowAt w (wr.setCell ⟨gi, j, none⟩ (.int .i64 (f i j))) g0 rows cols f i gs gi (j + 1) where
 below := h.below.setCell (by have := h.gt; have := h.ge; show _ ≤ gi; omega) _
 ge := h.ge
 top := blk_far h.top (by have := h.gt; show g0 ≠ gi; omega) _
 each := fun k hk => ⟨(h.each k hk).1, blk_far (h.each k hk).2 (by have := h.last k hk; show gs k ≠ gi; omega) _⟩
 inj := h.inj
 now := blk_put h.now j _ (by
  obtain ⟨m, hm⟩ : ∃ m, cols - j = m + 1 := ⟨cols - j - 1, by omega⟩
  rw [hm, show cols - (j + 1) = m by omega]
  simp [List.replicate_succ, List.range_succ, List.set_append])
 last := h.last
 gt := h.gt
theorem RowAt.done {w wr : World} {g0 rows cols i gi : Nat} {f : Nat → Nat → Int} {gs : Nat → Nat} (h : RowAt w wr g0 rows cols f i gs gi cols) (hi : i < rows) : TabAt w wr g0 rows cols f (i + 1) (fun k => if k = i then gi else gs k) where
 below := h.below
 ge := h.ge
 top := by
  have := h.top
  have e : (List.range (i + 1)).map (fun k => Value.slice (some ⟨if k = i then gi else gs k, 0, none⟩) cols cols) = (List.range i).map (fun k => Value.slice (some ⟨gs k, 0, none⟩) cols cols) ++ [.slice (some ⟨gi, 0, none⟩) cols cols] := by
   rw [List.range_succ, List.map_append]
   congr 1
   ·apply List.map_congr_left
    intro k hk
    rw [if_neg (by have := List.mem_range.1 hk; omega)]
   ·simp
  unfold rowBlk
  rw [e, List.append_assoc]
  exact this
 each := fun k hk => by
  by_cases e : k = i
  ·subst e
   rw [if_pos rfl]
   refine ⟨h.gt, ?_⟩
   have := h.now
   simpa [rowL] using this
  ·rw [if_neg e]
   exact h.each k (by omega)
 inj := fun k k' h1 h2 => by
  rw [if_neg (show ¬ k = i by omega)]
  by_cases e : k' = i
  ·rw [if_pos e]; exact h.last k (by omega)
  ·rw [if_neg e]; exact h.inj k k' h1 (by omega)
end Go.Proofs.Ythbkjaieenochaa

namespace Go.Proofs.Ythbkjaieenochaa
open Go.RowKit Go.Proofs.YthbkjaieenochaaW.PrintWords Go.Proofs.YthbkjaieenochaaW.PrintLast Go.Proofs.YthbkjaieenochaaW.PrintMore
set_option linter.unusedVariables false
set_option linter.unusedSimpArgs false

/-- A table of the call's own, with its outer block's cells in sight. -/
structure RawT (W : World) (B : Nat) (ok : Nat → Prop) (g cap : Nat) (f : Nat → Nat) (us : List Value) (l : List (List Int)) : Prop where
 len : us.length = l.length
 le : l.length ≤ cap
 max : cap ≤ maxLen
 ge : B ≤ g
 okg : ok g
 top : ∃ cur : Array Value, W.heap[g]? = some (.cells cur 28 (0, 0)) ∧ cur.size = cap ∧ cur.toList.take l.length = us
 each : ∀ (j : Nat) (x : List Int) (u : Value), l[j]? = some x → us[j]? = some u → (Kd.int .i64).R 3 W B (fun k => (ok k ∧ k ≠ g) ∧ f k = j) u x
theorem RawT.S {W : World} {B : Nat} {ok : Nat → Prop} {g cap : Nat} {f : Nat → Nat} {us : List Value} {l : List (List Int)} (h : RawT W B ok g cap f us l) : Kd.S (Kd.slice 3 (Kd.int .i64)) 28 W B ok (.slice (some ⟨g, 0, none⟩) l.length cap) l := by
 obtain ⟨cur, hh, hsz, htk⟩ := h.top
 have hsz1 : (Kd.tag f (Kd.slice 3 (Kd.int .i64))).sz = 1 := rfl
 refine ⟨f, fun k hk => ?_, us, ?_, ?_⟩
 ·have : g = k := by simpa [Value.ownBlock] using hk
  exact this ▸ h.okg
 ·rw [List.length_zipIdx]
  exact ⟨by rw [hsz1, Nat.mul_one]; exact h.len, .inr ⟨g, cap, cur, rfl, h.ge, hh, h.le, h.max, by rw [hsz1, Nat.mul_one]; exact hsz, by rw [hsz1, Nat.mul_one]; exact htk⟩⟩
 ·refine ⟨by rw [hsz1, Nat.mul_one, List.length_zipIdx]; exact h.len, fun j p hj => ?_⟩
  have hj2 : j < l.length := by have := (List.getElem?_eq_some_iff.1 hj).1; simpa using this
  have hp : p = (l[j], j) := by
   have := (List.getElem?_eq_some_iff.1 hj).2
   rw [← this]; simp
  subst hp
  have hju : j < us.length := by rw [h.len]; exact hj2
  rw [hsz1, Nat.mul_one, List.drop_eq_getElem_cons hju, List.take_succ_cons, List.take_zero]
  refine ⟨us[j], rfl, Kd.R_mono (h.each j l[j] us[j] (List.getElem?_eq_getElem hj2) (List.getElem?_eq_getElem hju)) (fun k hk => ⟨⟨hk.1.1, fun e => hk.1.2 (by simpa [Value.ownBlock] using e)⟩, hk.2⟩)⟩
theorem RawT.kept {W W' : World} {B : Nat} {ok : Nat → Prop} {g cap : Nat} {f : Nat → Nat} {us : List Value} {l : List (List Int)} (h : RawT W B ok g cap f us l) (hk : Kept W W' (fun k => k = g)) (j : Nat) (x : List Int) (u : Value) (hx : l[j]? = some x) (hu : us[j]? = some u) : (Kd.int .i64).R 3 W' B (fun k => (ok k ∧ k ≠ g) ∧ f k = j) u x :=
 Kd.R_kept (h.each j x u hx hu) hk (fun k hk => hk.1.2)

/-- The outer block while rows shift: s of the first j are kept and stand in front; behind them it is as it was. -/
structure Shift (W wr : World) (B g cap : Nat) (cur0 : Array Value) (sv : List Value) : Prop where
 kept : Kept W wr (fun k => k = g)
 top : ∃ cur : Array Value, wr.heap[g]? = some (.cells cur 28 (0, 0)) ∧ cur.size = cap ∧ cur.toList = sv ++ cur0.toList.drop sv.length
theorem Shift.below {W wr wr' : World} {B g cap : Nat} {cur0 : Array Value} {sv : List Value} (h : Shift W wr B g cap cur0 sv) (hb : Below wr.heap.size wr wr') : Shift W wr' B g cap cur0 sv where
 kept := h.kept.below hb
 top := by
  obtain ⟨cur, h1, h2, h3⟩ := h.top
  exact ⟨cur, blk_below h1 hb, h2, h3⟩
theorem Shift.cell {W wr : World} {B g cap : Nat} {cur0 : Array Value} {sv : List Value} (h : Shift W wr B g cap cur0 sv) (j : Nat) (u : Value) (hj : sv.length ≤ j) (hu : cur0.toList[j]? = some u) : wr.cell? ⟨g, j, none⟩ = some u := by
 obtain ⟨cur, h1, h2, h3⟩ := h.top
 rw [blk_cell h1, ← Array.getElem?_toList, h3, List.getElem?_append_right hj, List.getElem?_drop, Nat.add_sub_cancel' hj]
 exact hu
theorem Shift.there {W wr : World} {B g cap : Nat} {cur0 : Array Value} {sv : List Value} (h : Shift W wr B g cap cur0 sv) (j : Nat) (hj : j < cap) : (wr.cell? ⟨g, j, none⟩).isSome = true := by
 obtain ⟨cur, h1, h2, h3⟩ := h.top
 rw [blk_cell h1, Array.getElem?_eq_getElem (by omega)]
 rfl
theorem Shift.put {W wr : World} {B g cap : Nat} {cur0 : Array Value} {sv : List Value} (h : Shift W wr B g cap cur0 sv) (u : Value) (hl : sv.length < cap) (hc : cur0.size = cap) : Shift W (wr.setCell ⟨g, sv.length, none⟩ u) B g cap cur0 (sv ++ [u]) where
 kept := h.kept.setCell (.inl rfl) u
 top := by
  obtain ⟨cur, h1, h2, h3⟩ := h.top
  refine ⟨_, blk_set h1 sv.length u, by simp [h2], ?_⟩
  rw [Array.toList_setIfInBounds, h3, List.set_append_right _ _ (Nat.le_refl _), Nat.sub_self]
  have : sv.length < cur0.toList.length := by have := Array.length_toList (xs := cur0); omega
  rw [List.drop_eq_getElem_cons this]
  simp
theorem Shift.clear {W wr : World} {B g cap n : Nat} {cur0 : Array Value} {sv : List Value} (h : Shift W wr B g cap cur0 sv) (hn : sv.length ≤ n) (hc : n ≤ cap) (z : Value) :
  Kept W (wr.setCells g sv.length (List.replicate (n - sv.length) z)) (fun k => k = g) ∧ ∃ cur : Array Value, (wr.setCells g sv.length (List.replicate (n - sv.length) z)).heap[g]? = some (.cells cur 28 (0, 0)) ∧ cur.size = cap ∧ cur.toList.take sv.length = sv := by
 obtain ⟨cur, h1, h2, h3⟩ := h.top
 obtain ⟨cur', k1, k2, k3⟩ := setCells_row (List.replicate (n - sv.length) z) sv.length wr cur h1 (by rw [List.length_replicate]; omega)
 refine ⟨⟨?_, fun i hi hne => ?_⟩, cur', k1, by omega, ?_⟩
 ·rw [(setCells_same g _ _ wr).2.2.2]; exact h.kept.1
 ·rw [setCells_far _ _ i hne]; exact h.kept.2 i hi hne
 ·rw [k3, h3, List.append_assoc]
  rw [List.take_append_of_le_length (by simp)]
  simp
def RetD (w : World) (B : Nat) (ok : Nat → Prop) (T : List (List Int)) (e : Ending) (w' : World) : Prop := ∃ v0_ : Value, e = .returned (v0_) ∧ Kd.S (Kd.slice 3 (Kd.int .i64)) 28 w' B ok v0_ T ∧ Below B w w'
theorem RetD.mk {w w' : World} {B : Nat} {ok : Nat → Prop} {T : List (List Int)} {v : Value} (h : Kd.S (Kd.slice 3 (Kd.int .i64)) 28 w' B ok v T) (hb : Below B w w') : RetD w B ok T (.returned v) w' := ⟨v, rfl, h, hb⟩
end Go.Proofs.Ythbkjaieenochaa

namespace Go.Proofs.Ythbkjaieenochaa
open Go.RowKit Go.Proofs.YthbkjaieenochaaW.PrintWords Go.Proofs.YthbkjaieenochaaW.PrintLast Go.Proofs.YthbkjaieenochaaW.PrintMore
set_option linter.unusedVariables false
set_option linter.unusedSimpArgs false

/-- From W to W' nothing has changed but the blocks of S, and new ones. -/
structure Touch (W W' : World) (S : Nat → Prop) : Prop where
 os : W'.os = W.os
 tape : W'.tape = W.tape
 output : W'.output = W.output
 kept : Kept W W' S
theorem Touch.of_below {W W' : World} (h : Below W.heap.size W W') (S : Nat → Prop) : Touch W W' S := ⟨h.os, h.tape, h.output, Kept.of_below h S⟩
theorem Touch.refl (W : World) (S : Nat → Prop) : Touch W W S := Touch.of_below (Below.refl _ _) S
theorem Touch.trans {W W1 W2 : World} {S S2 : Nat → Prop} (h : Touch W W1 S) (k : Touch W1 W2 S2) (hs : ∀ k, S2 k → S k ∨ W.heap.size ≤ k) : Touch W W2 S :=
 ⟨k.os.trans h.os, k.tape.trans h.tape, k.output.trans h.output, h.kept.then_ k.kept hs⟩
theorem Touch.then_below {W W1 W2 : World} {S : Nat → Prop} (h : Touch W W1 S) (k : Below W1.heap.size W1 W2) : Touch W W2 S :=
 h.trans (Touch.of_below k (fun _ => False)) (fun _ hk => hk.elim)
theorem Touch.mono {W W' : World} {S S' : Nat → Prop} (h : Touch W W' S) (hs : ∀ k, S k → S' k) : Touch W W' S' := ⟨h.os, h.tape, h.output, h.kept.mono hs⟩
theorem Touch.size {W W' : World} {S : Nat → Prop} (h : Touch W W' S) : W.heap.size ≤ W'.heap.size := h.kept.1
theorem Touch.heap {W W' : World} {S : Nat → Prop} (h : Touch W W' S) {k : Nat} (hk : k < W.heap.size) (hn : ¬ S k) : W'.heap[k]? = W.heap[k]? := h.kept.2 k hk hn
theorem Touch.below {B : Nat} {W W' : World} {S : Nat → Prop} (h : Touch W W' S) (hS : ∀ k, S k → B ≤ k) (hB : B ≤ W.heap.size) : Below B W W' :=
 ⟨h.os, h.tape, h.output, h.kept.1, fun i hi => h.kept.2 i (by omega) (fun hk => by have := hS i hk; omega)⟩
theorem Touch.set {W W1 : World} {S : Nat → Prop} (h : Touch W W1 S) (p : Addr) (hp : S p.block ∨ W.heap.size ≤ p.block) (u : Value) : Touch W (W1.setCell p u) S := by
 refine ⟨?_, ?_, ?_, h.kept.setCell hp u⟩
 ·exact (show (W1.setCell p u).os = W1.os by simp [World.setCell]).trans h.os
 ·exact (show (W1.setCell p u).tape = W1.tape by simp [World.setCell]).trans h.tape
 ·exact (show (W1.setCell p u).output = W1.output by simp [World.setCell]).trans h.output
theorem Touch.blk {W W' : World} {S : Nat → Prop} (h : Touch W W' S) {g : Nat} {o : Obj} (hb : W.heap[g]? = some o) (hn : ¬ S g) : W'.heap[g]? = some o := (h.heap (blk_lt hb) hn).trans hb
theorem Touch.F {α : Type} {d : Kd α} {W W' : World} {S ok : Nat → Prop} {A : Option Addr} {n : Nat} {xs : List α} (h : Touch W W' S) (hf : Kd.F d W ok A n xs) (hn : ∀ k, ok k → ¬ S k) : Kd.F d W' ok A n xs := Kd.F_kept hf h.kept hn
/-- A state that a function value writes: St j W ok: j calls have been; its blocks are ok. -/
structure Stays (St : Nat → World → (Nat → Prop) → Prop) : Prop where
 lt : ∀ {j W ok}, St j W ok → ∀ k, ok k → k < W.heap.size
 step : ∀ {j W W' ok}, St j W ok → (∀ k, ok k → W'.heap[k]? = W.heap[k]?) → St j W' ok
theorem Stays.touch {St : Nat → World → (Nat → Prop) → Prop} (h : Stays St) {j : Nat} {W W' : World} {ok S : Nat → Prop} (hs : St j W ok) (ht : Touch W W' S) (hn : ∀ k, ok k → ¬ S k) : St j W' ok :=
 h.step hs (fun k hk => ht.heap (h.lt hs k hk) (hn k hk))
theorem Stays.below {St : Nat → World → (Nat → Prop) → Prop} (h : Stays St) {j : Nat} {W W' : World} {ok : Nat → Prop} (hs : St j W ok) (ht : Below W.heap.size W W') : St j W' ok :=
 h.step hs (fun k hk => ht.block k (h.lt hs k hk))
end Go.Proofs.Ythbkjaieenochaa

namespace Go.Proofs.Ythbkjaieenochaa
open Go.RowKit Go.Proofs.YthbkjaieenochaaW.PrintWords Go.Proofs.YthbkjaieenochaaW.PrintLast Go.Proofs.YthbkjaieenochaaW.PrintMore
set_option linter.unusedVariables false
set_option linter.unusedSimpArgs false

end Go.Proofs.Ythbkjaieenochaa

namespace Go.Proofs.Ythbkjaieenochaa
open Go.RowKit Go.Proofs.YthbkjaieenochaaW.PrintWords Go.Proofs.YthbkjaieenochaaW.PrintLast Go.Proofs.YthbkjaieenochaaW.PrintMore
set_option linter.unusedVariables false

end Go.Proofs.Ythbkjaieenochaa
