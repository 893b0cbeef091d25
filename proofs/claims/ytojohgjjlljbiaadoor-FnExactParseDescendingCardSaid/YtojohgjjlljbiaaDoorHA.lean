import Derived.Test.YtojohgjjlljbiaaDoorProg
import Derived.Below
import Derived.Deep.Draws
import Derived.Deep.AppendLies
import Derived.Maps.AppendAt
import Derived.OwnWalk
import Derived.Laws.BytesArg
import Derived.Laws.MakeOwn
import Derived.Laws.OwnMore
import Derived.Deep.OwnRows
import Derived.Tactics
import Derived.Lib.ConvBytes
import Derived.Laws.Slices
import Derived.WalkKit
import Derived.KernelRfl
import Derived.RowKit3
import Derived.Deep.LoopGhost
import Derived.Deep.QuietTactic
import Derived.BigQuiet
import Derived.WideLaws
import Derived.Deep.DeepCutAuto
import Derived.Deep.CutBlock
import Derived.Deep.RegionHeld3
import Derived.Laws.Rows
import Derived.Lib.AppendStr
import Derived.ArgAppend
import Derived.Laws.IdiomCopy
import Derived.OrdersHeld
import Derived.Laws.BitsLemmas
import Derived.RowKit
import Derived.Shelf.Abstract
import Derived.Test.YtojohgjjlljbiaaDoorWMore
import Derived.Test.YtojohgjjlljbiaaDoorWTab
import Derived.Test.YtojohgjjlljbiaaDoorWFour
import Derived.WalkSpells
namespace Go.Proofs.YtojohgjjlljbiaaDoor
open Go.RowKit Go.Proofs.YtojohgjjlljbiaaDoorW.PrintWords Go.Proofs.YtojohgjjlljbiaaDoorW.PrintLast Go.Proofs.YtojohgjjlljbiaaDoorW.PrintMore
set_option linter.unusedVariables false
set_option linter.unusedSimpArgs false

/-- The place of the first element for which p holds, from k on; -1 if there is none. -/
def idxFrom {α : Type} (p : α → Bool) : Nat → List α → Int
  | _, [] => -1
  | k, x :: r => if p x then (k : Int) else idxFrom p (k + 1) r
def idxOf {α : Type} (p : α → Bool) (l : List α) : Int := idxFrom p 0 l
theorem idxFrom_hit {α : Type} (p : α → Bool) (l : List α) : ∀ (m kk : Nat) (h : kk < l.length), (∀ j (hj : j < kk), p (l[j]'(by omega)) = false) → p l[kk] = true → idxFrom p m l = ((m + kk : Nat) : Int) := by
  induction l with
  | nil => intro m kk h; exact absurd h (by simp)
  | cons x r ih =>
    intro m kk h hn hy
    cases kk with
    | zero => simp only [List.getElem_cons_zero] at hy; simp [idxFrom, hy]
    | succ kk =>
      have h0 := hn 0 (by omega)
      simp only [List.getElem_cons_zero] at h0
      simp only [List.getElem_cons_succ] at hy
      have := ih (m + 1) kk (by simpa using h) (fun j hj => by have := hn (j + 1) (by omega); simpa using this) hy
      rw [idxFrom, if_neg (by simp [h0]), this]
      omega
theorem idxFrom_miss {α : Type} (p : α → Bool) (l : List α) : ∀ (m : Nat), (∀ j (hj : j < l.length), p l[j] = false) → idxFrom p m l = -1 := by
  induction l with
  | nil => intro m h; rfl
  | cons x r ih =>
    intro m hn
    have h0 := hn 0 (by simp)
    simp only [List.getElem_cons_zero] at h0
    rw [idxFrom, if_neg (by simp [h0])]
    exact ih (m + 1) (fun j hj => by have := hn (j + 1) (by simpa using hj); simpa using this)
theorem idxFrom_any {α : Type} (p : α → Bool) (l : List α) : ∀ m : Nat, decide (0 ≤ idxFrom p m l) = l.any p := by
  induction l with
  | nil => intro m; rfl
  | cons x r ih =>
    intro m
    rw [idxFrom]
    cases h : p x with
    | true => simp [h]
    | false => simp [h, ih (m + 1)]
theorem idxOf_any {α : Type} (p : α → Bool) (l : List α) : decide (0 ≤ idxOf p l) = l.any p := idxFrom_any p l 0

/-- A call of g in a later world answers a bool, and turns nothing. -/
def Gives (P : Program) (g : Nat) (args : Array Value) (W : World) (res : Value) : Prop :=
  Calls P g args W fun e W' => e = .returned res ∧ Below W.heap.size W W'

set_option maxHeartbeats 2000000 in
theorem slices_IndexFunc_int.calls (g : Nat) (lb : Array Value) (p : Int → Bool) (A0 : Option Addr) (c0 : Nat) (l0 : List Int) (w : World)
    (eg : ∀ args w, (callFunc g args).run Tryd.prog w = .ok (.enter g args) w)
    (hp : ∀ (x : Int) (W : World), x ∈ l0 → Below w.heap.size w W → Gives Tryd.prog g (#[.int .i64 x] ++ lb) W (.bool (p x)))
    (hr0 : Kd.C (Kd.int .i64) w A0 l0.length l0) (hc0 : l0.length ≤ c0) :
    Calls Tryd.prog 40 #[.slice A0 l0.length c0, .func (.func g) #[] lb] w fun e w' => e = .returned (.int .i64 (idxOf p l0)) ∧ Below w.heap.size w w' := by
  have hm := hr0.2.1
  have HR0 := Aside0.mk hr0
  have HP := Aside0.mk hp
  clear hr0 hc0 hp
  have hm1 : l0.length ≤ 9223372036854775807 := hm
  go_enter Tryd.func40, Tryd.ntmps40
  go_wp2
  go_loopg [5, 8] l0.length (fun gg _ s8 wr => ∃ kk : Nat, kk ≤ l0.length ∧ l0.length - kk ≤ gg ∧ s8 = .int .i64 kk ∧ Aside0 (Below w.heap.size w wr) ∧ Aside0 (∀ j (hj : j < l0.length), j < kk → p l0[j] = false))
  case atStart => exact ⟨0, Nat.zero_le _, by omega, rfl, ⟨Below.refl _ _⟩, ⟨fun j _ hj => absurd hj (Nat.not_lt_zero _)⟩⟩
  case round =>
    obtain ⟨kk, hkk, hg, rfl, HB, HN⟩ := hrel
    by_cases hlt : kk < l0.length
    · have hltz : (kk : Int) < (l0.length : Int) := by omega
      obtain ⟨ad, e0, hx⟩ := Kd.at_int HR0.out kk (by omega) hltz
      cases e0
      replace hx := pw_cell_below HB.out hx
      have hrd : rd l0 kk = l0[kk] := by simp [rd, List.getD_eq_getElem?_getD, hlt]
      rw [hrd] at hx
      have hcall := HP.out l0[kk] wr (List.getElem_mem hlt) HB.out
      generalize hy : l0[kk] = y at hx hcall
      have HY := Aside0.mk hy
      clear hy
      simp only [Int.toNat_natCast] at hx
      cases hq : p y with
      | true =>
        rw [hq] at hcall
        have HQ := Aside0.mk hq
        clear hq
        go_wp2_with (go_at_fn g; refine (hcall).mono ?_; rintro e w' ⟨rfl, hb⟩)
        go_ret
        refine ⟨?_, below_then HB.out HB.out.size hb⟩
        unfold idxOf
        rw [idxFrom_hit p l0 0 kk hlt (fun j hj => HN.out j (by omega) hj) (by rw [HY.out]; exact HQ.out), Nat.zero_add]
        rfl
      | false =>
        rw [hq] at hcall
        have HQ := Aside0.mk hq
        clear hq
        go_wp2_with (go_at_fn g; refine (hcall).mono ?_; rintro e w' ⟨rfl, hb⟩)
        go_roundg (l0.length - (kk + 1))
        case measure => omega
        case rel =>
          refine ⟨kk + 1, by omega, by omega, by go_num, ⟨below_then HB.out HB.out.size hb⟩, ⟨fun j hj hjk => ?_⟩⟩
          by_cases e : j = kk
          · subst e
            rw [HY.out]; exact HQ.out
          · exact HN.out j hj (by omega)
    · have hltz : ¬ (kk : Int) < (l0.length : Int) := by omega
      go_wp2
      go_ret
      refine ⟨?_, HB.out⟩
      unfold idxOf
      rw [idxFrom_miss p l0 0 (fun j hj => HN.out j hj (by omega))]
      rfl
set_option maxHeartbeats 2000000 in
theorem slices_ContainsFunc_int.calls (g : Nat) (lb : Array Value) (p : Int → Bool) (A0 : Option Addr) (c0 : Nat) (l0 : List Int) (w : World)
    (eg : ∀ args w, (callFunc g args).run Tryd.prog w = .ok (.enter g args) w)
    (hp : ∀ (x : Int) (W : World), x ∈ l0 → Below w.heap.size w W → Gives Tryd.prog g (#[.int .i64 x] ++ lb) W (.bool (p x)))
    (hr0 : Kd.C (Kd.int .i64) w A0 l0.length l0) (hc0 : l0.length ≤ c0) :
    Calls Tryd.prog 32 #[.slice A0 l0.length c0, .func (.func g) #[] lb] w fun e w' => e = .returned (.bool (l0.any p)) ∧ Below w.heap.size w w' := by
  rw [← idxOf_any]
  have hcon := slices_IndexFunc_int.calls g lb p A0 c0 l0 w eg hp hr0 hc0
  clear hp hr0
  generalize idxOf p l0 = r at hcon ⊢
  go_enter Tryd.func32, Tryd.ntmps32
  go_wp2_with (go_at_call 40; refine hcon.mono ?_; rintro e w' ⟨rfl, hb⟩)
  go_ret
  exact ⟨rfl, hb⟩
end Go.Proofs.YtojohgjjlljbiaaDoor

namespace Go.Proofs.YtojohgjjlljbiaaDoor
open Go.RowKit Go.Proofs.YtojohgjjlljbiaaDoorW.PrintWords Go.Proofs.YtojohgjjlljbiaaDoorW.PrintLast Go.Proofs.YtojohgjjlljbiaaDoorW.PrintMore
set_option linter.unusedVariables false
set_option linter.unusedSimpArgs false

theorem all_any {α : Type} (l : List α) (p : α → Bool) : (l.all fun x => p x) = !(l.any fun x => !(p x)) := by
  induction l with
  | nil => rfl
  | cons x r ih => simp [ih]
def inB (n lo hi : Int) : Bool := decide (lo ≤ n) && decide (n ≤ hi)
theorem inB_iff (n lo hi : Int) : inB n lo hi = true ↔ lo ≤ n ∧ n ≤ hi := by simp [inB]

def impl_within.f (a0 a1 a2 : Int) : Option Bool := some (inB a0 a1 a2)
theorem impl_within.calls (a0 : Int) (a1 : Int) (a2 : Int) (r : Bool) (w : World) (h : impl_within.f a0 a1 a2 = some r) :
    Calls Tryd.prog 34 #[.int .i64 a0, .int .i64 a1, .int .i64 a2] w fun e w' => e = .returned (.bool r) ∧ Drawn0 w w' := by
  obtain rfl := Option.some.inj h
  clear h
  by_cases h1 : a1 ≤ a0
  · have d1 : decide (a1 ≤ a0) = true := decide_eq_true h1
    by_cases h2 : a0 ≤ a2
    · have d2 : decide (a0 ≤ a2) = true := decide_eq_true h2
      have hr : inB a0 a1 a2 = true := by simp [inB, h1, h2]
      rw [hr]; clear hr
      go_enter Tryd.func34, Tryd.ntmps34
      go_wp2
      go_ret
      exact ⟨by first | rfl | (simp; done) | (simp [*]; done), Drawn0.refl _⟩
    · have d2 : decide (a0 ≤ a2) = false := decide_eq_false h2
      have hr : inB a0 a1 a2 = false := by simp [inB, h1]; omega
      rw [hr]; clear hr
      go_enter Tryd.func34, Tryd.ntmps34
      go_wp2
      go_ret
      exact ⟨by first | rfl | (simp; done) | (simp [*]; done), Drawn0.refl _⟩
  · have d1 : decide (a1 ≤ a0) = false := decide_eq_false h1
    have hr : inB a0 a1 a2 = false := by simp [inB]; omega
    rw [hr]; clear hr
    go_enter Tryd.func34, Tryd.ntmps34
    go_wp2
    go_ret
    exact ⟨by first | rfl | (simp; done) | (simp [*]; done), Drawn0.refl _⟩

theorem areWithin_1.calls (x lo hi : Int) (b1 b2 : Nat) (W : World) (h1 : W.cell? ⟨b1, 0, none⟩ = some (.int .i64 lo)) (h2 : W.cell? ⟨b2, 0, none⟩ = some (.int .i64 hi)) :
    Gives Tryd.prog 33 #[.int .i64 x, .pointer (some ⟨b1, 0, none⟩), .pointer (some ⟨b2, 0, none⟩)] W (.bool (!(inB x lo hi))) := by
  unfold Gives
  go_enter Tryd.func33, Tryd.ntmps33
  go_wp2_with (go_at_call 34; refine (impl_within.calls x lo hi _ _ rfl).mono ?_; rintro e w' ⟨rfl, hd⟩; have hb := hd.below; clear hd)
  go_ret
  exact ⟨rfl, hb⟩

def impl_areWithin.f (l0 : List Int) (a1 a2 : Int) : Option Bool := some (l0.all fun x => inB x a1 a2)
set_option maxHeartbeats 1000000 in
theorem impl_areWithin.calls (A0 : Option Addr) (c0 : Nat) (l0 : List Int) (a1 : Int) (a2 : Int) (r : Bool) (w : World) (hr0 : Kd.C (Kd.int .i64) w A0 l0.length l0) (hc0 : l0.length ≤ c0) (h : impl_areWithin.f l0 a1 a2 = some r) :
    Calls Tryd.prog 27 #[.slice A0 l0.length c0, .int .i64 a1, .int .i64 a2] w fun e w' => e = .returned (.bool r) ∧ Below w.heap.size w w' := by
  obtain rfl := Option.some.inj h
  clear h
  have eg : ∀ args w, (callFunc 33 args).run Tryd.prog w = .ok (.enter 33 args) w := enters_of Tryd.func33 (by kernel_rfl) rfl
  have hB2 : Below w.heap.size w ((w.alloc (.cells #[.int .i64 a1] 3)).alloc (.cells #[.int .i64 a2] 3)) := below_alloc (below_alloc (Below.refl _ _) _) _
  have hcon := slices_ContainsFunc_int.calls 33 #[.pointer (some ⟨w.heap.size, 0, none⟩), .pointer (some ⟨w.heap.size + 1, 0, none⟩)] (fun x => !(inB x a1 a2)) A0 c0 l0 ((w.alloc (.cells #[.int .i64 a1] 3)).alloc (.cells #[.int .i64 a2] 3)) eg
    (fun x W _ hb => areWithin_1.calls x a1 a2 _ _ W (pw_cell_below hb (by rw [World.cell?_alloc_past _ _ _ (by simp), World.cell?_alloc_at _ _ _ _ rfl]; rfl)) (pw_cell_below hb (by rw [World.cell?_alloc_at _ _ _ _ (by simp)]; rfl)))
    (Kd.C_below hr0 hB2) hc0
  clear hr0 hc0
  have hall : (l0.all fun x => inB x a1 a2) = !(l0.any fun x => !(inB x a1 a2)) := all_any l0 _
  rw [hall]
  clear hall
  generalize (l0.any fun x => !(inB x a1 a2)) = r at hcon ⊢
  have HB := Aside0.mk hB2
  clear hB2
  go_enter Tryd.func27, Tryd.ntmps27
  go_wp2_with (go_at_call 32; refine hcon.mono ?_; rintro e w' ⟨rfl, hb⟩)
  go_ret
  exact ⟨rfl, below_then HB.out HB.out.size hb⟩
end Go.Proofs.YtojohgjjlljbiaaDoor

namespace Go.Proofs.YtojohgjjlljbiaaDoor
open Go.RowKit Go.Proofs.YtojohgjjlljbiaaDoorW.PrintWords Go.Proofs.YtojohgjjlljbiaaDoorW.PrintLast Go.Proofs.YtojohgjjlljbiaaDoorW.PrintMore
set_option linter.unusedVariables false
set_option linter.unusedSimpArgs false

/-- A block of whole numbers. -/
def intBlk (W : World) (g : Nat) (l : List Int) : Prop := W.heap[g]? = some (.cells (l.map (Value.int .i64)).toArray 3 (0, 0))
/-- A block of rows, each in a block of its own. -/
def rowBlk (W : World) (g : Nat) (cs : List Value) : Prop := W.heap[g]? = some (.cells cs.toArray 30 (0, 0))

theorem intBlk_R {W : World} {base g : Nat} {ok : Nat → Prop} {l : List Int} (h : intBlk W g l) (hb : base ≤ g) (hok : ok g) (hl : l.length ≤ 1000000000000000) :
    Kd.R (Kd.int .i64) 3 W base ok (.slice (some ⟨g, 0, none⟩) l.length l.length) l := by
  refine ⟨fun k hk => ?_, l.map (Value.int .i64), ⟨by simp [Kd.int, Kd.scalar], .inr ⟨g, l.length, _, rfl, hb, h, Nat.le_refl _, by unfold maxLen; omega, by simp [Kd.int, Kd.scalar], by simp [Kd.int, Kd.scalar]; exact List.take_of_length_le (by simp)⟩⟩, ?_⟩
  · have : g = k := by simpa [Value.ownBlock] using hk
    exact this ▸ hok
  · refine ⟨by simp [Kd.int, Kd.scalar], fun j p hj => ?_⟩
    have hj2 : j < l.length := (List.getElem?_eq_some_iff.1 hj).1
    have hp : l[j] = p := (List.getElem?_eq_some_iff.1 hj).2
    show ((l.map (Value.int .i64)).drop (j * 1)).take 1 = [Value.int .i64 p]
    rw [Nat.mul_one, List.drop_eq_getElem_cons (by simpa using hj2)]
    simp [hp]

theorem rows_S {W : World} {base g0 : Nat} {gs : Nat → Nat} {xss : List (List Int)} (hn : xss.length ≤ 1000000000000000) (hb : base ≤ g0)
    (h0 : rowBlk W g0 ((List.range xss.length).map fun k => Value.slice (some ⟨gs k, 0, none⟩) (xss.getD k []).length (xss.getD k []).length))
    (hk : ∀ k, k < xss.length → base ≤ gs k ∧ gs k ≠ g0 ∧ (xss.getD k []).length ≤ 1000000000000000 ∧ intBlk W (gs k) (xss.getD k []))
    (hinj : ∀ k k', k < xss.length → k' < xss.length → gs k = gs k' → k = k') :
    Kd.S (Kd.slice 3 (Kd.int .i64)) 30 W base (fun _ => True) (.slice (some ⟨g0, 0, none⟩) xss.length xss.length) xss := by
  refine ⟨fun b => ((List.range xss.length).find? (fun k => gs k == b)).getD 0, fun k _ => trivial, (List.range xss.length).map fun k => Value.slice (some ⟨gs k, 0, none⟩) (xss.getD k []).length (xss.getD k []).length, ?_, ?_⟩
  · rw [List.length_zipIdx]
    exact ⟨by simp [Kd.tag, Kd.slice], .inr ⟨g0, xss.length, _, rfl, hb, h0, Nat.le_refl _, by unfold maxLen; omega, by simp [Kd.tag, Kd.slice], by simp [Kd.tag, Kd.slice]; exact List.take_of_length_le (by simp)⟩⟩
  · refine ⟨by simp [Kd.tag, Kd.slice], fun j p hj => ?_⟩
    have hj2 : j < xss.length := by have := (List.getElem?_eq_some_iff.1 hj).1; simpa using this
    have hp : p = (xss[j], j) := by
      have := (List.getElem?_eq_some_iff.1 hj).2
      rw [← this]; simp
    subst hp
    obtain ⟨h1, h2, h3, h4⟩ := hk j hj2
    have hg : xss.getD j [] = xss[j] := by simp [List.getD_eq_getElem?_getD, hj2]
    rw [hg] at h3 h4
    have hf : ((List.range xss.length).find? (fun k => gs k == gs j)).getD 0 = j := by
      cases hq : (List.range xss.length).find? (fun k => gs k == gs j) with
      | none =>
        have := List.find?_eq_none.1 hq j (by simpa using hj2)
        simp at this
      | some k =>
        have hm := List.mem_of_find?_eq_some hq
        have hs := List.find?_some hq
        exact hinj k j (by simpa using hm) hj2 (by simpa using hs)
    refine ⟨Value.slice (some ⟨gs j, 0, none⟩) xss[j].length xss[j].length, ?_, intBlk_R h4 h1 ⟨⟨trivial, by simp [Value.ownBlock, h2]⟩, hf⟩ h3⟩
    show (((List.range xss.length).map fun k => Value.slice (some ⟨gs k, 0, none⟩) (xss.getD k []).length (xss.getD k []).length).drop (j * 1)).take 1 = _
    rw [Nat.mul_one, List.drop_eq_getElem_cons (by simpa using hj2)]
    simp [hj2]

theorem blk_of_below {W W' : World} {g : Nat} {o : Obj} (h : W.heap[g]? = some o) (hb : Below W.heap.size W W') : W'.heap[g]? = some o := blk_below h hb

/-- A table of whole numbers of the call's own: each row in a block of its own. -/
structure MTab (W : World) (B g0 : Nat) (gs : Nat → Nat) (T : List (List Int)) : Prop where
  ge : B ≤ g0
  top : rowBlk W g0 ((List.range T.length).map fun k => Value.slice (some ⟨gs k, 0, none⟩) (T.getD k []).length (T.getD k []).length)
  each : ∀ k, k < T.length → B ≤ gs k ∧ gs k ≠ g0 ∧ intBlk W (gs k) (T.getD k [])
  inj : ∀ k k', k < T.length → k' < T.length → gs k = gs k' → k = k'
theorem MTab.below {W W' : World} {B g0 : Nat} {gs : Nat → Nat} {T : List (List Int)} (h : MTab W B g0 gs T) (hb : Below W.heap.size W W') : MTab W' B g0 gs T where
  ge := h.ge
  top := blk_below h.top hb
  each := fun k hk => ⟨(h.each k hk).1, (h.each k hk).2.1, blk_below (h.each k hk).2.2 hb⟩
  inj := h.inj
theorem MTab.drew {W : World} {B g0 : Nat} {gs : Nat → Nat} {T : List (List Int)} (h : MTab W B g0 gs T) : MTab W.drew B g0 gs T := h.below (below_drew (Below.refl _ _))
theorem MTab.drewN {W : World} {B g0 : Nat} {gs : Nat → Nat} {T : List (List Int)} (h : MTab W B g0 gs T) (n : Nat) : MTab (W.drewN n) B g0 gs T := h.below (pw_below_drewN (Below.refl _ _) n)
theorem MTab.alloc {W : World} {B g0 : Nat} {gs : Nat → Nat} {T : List (List Int)} (h : MTab W B g0 gs T) (o : Obj) : MTab (W.alloc o) B g0 gs T := h.below (below_alloc (Below.refl _ _) _)
theorem MTab.lower {W : World} {B B' g0 : Nat} {gs : Nat → Nat} {T : List (List Int)} (h : MTab W B g0 gs T) (hb : B' ≤ B) : MTab W B' g0 gs T where
  ge := Nat.le_trans hb h.ge
  top := h.top
  each := fun k hk => ⟨Nat.le_trans hb (h.each k hk).1, (h.each k hk).2.1, (h.each k hk).2.2⟩
  inj := h.inj
theorem MTab.S {W : World} {B g0 : Nat} {gs : Nat → Nat} {T : List (List Int)} (h : MTab W B g0 gs T) (hn : T.length ≤ 1000000000000000) (hl : ∀ k, k < T.length → (T.getD k []).length ≤ 1000000000000000) :
    Kd.S (Kd.slice 3 (Kd.int .i64)) 30 W B (fun _ => True) (.slice (some ⟨g0, 0, none⟩) T.length T.length) T :=
  rows_S hn h.ge h.top (fun k hk => ⟨(h.each k hk).1, (h.each k hk).2.1, hl k hk, (h.each k hk).2.2⟩) h.inj
theorem MTab.rowCell {W : World} {B g0 : Nat} {gs : Nat → Nat} {T : List (List Int)} (h : MTab W B g0 gs T) (i : Nat) (hi : i < T.length) : W.cell? ⟨g0, i, none⟩ = some (.slice (some ⟨gs i, 0, none⟩) (T.getD i []).length (T.getD i []).length) := by
  rw [blk_cell h.top]
  simp [hi]
theorem MTab.cell {W : World} {B g0 : Nat} {gs : Nat → Nat} {T : List (List Int)} (h : MTab W B g0 gs T) (i j : Nat) (hi : i < T.length) (hj : j < (T.getD i []).length) : W.cell? ⟨gs i, j, none⟩ = some (.int .i64 ((T.getD i []).getD j 0)) := by
  rw [blk_cell (h.each i hi).2.2]
  simp only [List.getElem?_toArray, List.getElem?_map, List.getD_eq_getElem?_getD (l := T.getD i []), List.getElem?_eq_getElem hj, Option.map_some, Option.getD_some]
theorem MTab.free {W : World} {B g0 : Nat} {gs : Nat → Nat} {T : List (List Int)} (h : MTab W B g0 gs T) (i j : Nat) (hi : i < T.length) : W.frozen? ⟨gs i, j, none⟩ = false := blk_frozen (h.each i hi).2.2 j
/-- T with v at (i, j). -/
def putT (T : List (List Int)) (i j : Nat) (v : Int) : List (List Int) := T.set i ((T.getD i []).set j v)
theorem putT_length (T : List (List Int)) (i j : Nat) (v : Int) : (putT T i j v).length = T.length := by simp [putT]
theorem putT_row (T : List (List Int)) (i j : Nat) (v : Int) (k : Nat) : ((putT T i j v).getD k []).length = (T.getD k []).length := by
  unfold putT
  simp only [List.getD_eq_getElem?_getD, List.getElem?_set]
  by_cases h : i = k
  · subst h
    by_cases h2 : i < T.length
    · simp [h2]
    · simp [h2]
  · simp [h]
theorem MTab.put {W : World} {B g0 : Nat} {gs : Nat → Nat} {T : List (List Int)} (h : MTab W B g0 gs T) (i j : Nat) (hi : i < T.length) (v : Int) : MTab (W.setCell ⟨gs i, j, none⟩ (.int .i64 v)) B g0 gs (putT T i j v) where
  ge := h.ge
  top := by
    have e : (List.range (putT T i j v).length).map (fun k => Value.slice (some ⟨gs k, 0, none⟩) ((putT T i j v).getD k []).length ((putT T i j v).getD k []).length) = (List.range T.length).map fun k => Value.slice (some ⟨gs k, 0, none⟩) (T.getD k []).length (T.getD k []).length := by
      rw [putT_length]
      apply List.map_congr_left
      intro k hk
      rw [putT_row]
    unfold rowBlk
    rw [e]
    exact blk_far h.top (h.each i hi).2.1.symm _
  each := fun k hk => by
    rw [putT_length] at hk
    refine ⟨(h.each k hk).1, (h.each k hk).2.1, ?_⟩
    by_cases e : k = i
    · subst e
      have e2 : (putT T k j v).getD k [] = (T.getD k []).set j v := by unfold putT; simp [List.getD_eq_getElem?_getD, hk]
      rw [e2]
      exact blk_put (h.each k hk).2.2 j _ (by simp)
    · have e2 : (putT T i j v).getD k [] = T.getD k [] := by
        unfold putT
        rw [List.getD_eq_getElem?_getD, List.getElem?_set_ne (fun e3 => e e3.symm), List.getD_eq_getElem?_getD]
      rw [e2]
      exact blk_far (h.each k hk).2.2 (fun e3 => e (h.inj k i hk hi e3)) _
  inj := fun k k' hk hk' => h.inj k k' (by rwa [putT_length] at hk) (by rwa [putT_length] at hk')
/-- What comes back is a table of the call's own, as T tells it; all else is as it was. -/
def RetM (w : World) (T : List (List Int)) (e : Ending) (w' : World) : Prop := ∃ (g0 : Nat) (gs : Nat → Nat), e = .returned (.slice (some ⟨g0, 0, none⟩) T.length T.length) ∧ MTab w' w.heap.size g0 gs T ∧ Below w.heap.size w w'
theorem info_rows : (Tryd.prog.info? 30).map (fun i => (i.zero, i.size, i.bytes)) = some (some (.slice none 0 0), 1, 24) := by kernel_rfl
theorem info_ints : (Tryd.prog.info? 3).map (fun i => (i.zero, i.size, i.bytes)) = some (some (.int .i64 0), 1, 8) := by kernel_rfl

theorem madeRows (m : Nat) : madeCells #[Value.slice none 0 0] m = (List.replicate m (Value.slice none 0 0)).toArray := by
  apply Array.ext
  · simp [madeCells]
  · intro i h1 h2; simp [madeCells, Nat.mod_one]
theorem madeInts (m : Nat) : madeCells #[Value.int .i64 0] m = ((List.replicate m (0 : Int)).map (Value.int .i64)).toArray := by
  apply Array.ext
  · simp [madeCells]
  · intro i h1 h2; simp [madeCells, Nat.mod_one]


end Go.Proofs.YtojohgjjlljbiaaDoor

namespace Go.Proofs.YtojohgjjlljbiaaDoor
open Go.RowKit Go.Proofs.YtojohgjjlljbiaaDoorW.PrintWords Go.Proofs.YtojohgjjlljbiaaDoorW.PrintLast Go.Proofs.YtojohgjjlljbiaaDoorW.PrintMore
set_option linter.unusedVariables false
set_option linter.unusedSimpArgs false

theorem rd_nat (l : List Int) (i : Nat) (h : i < l.length) : rd l i = l[i] := by simp [rd, List.getD_eq_getElem?_getD, h]
/-- A copy while it is filled: i numbers are there. -/
theorem copy_next (l : List Int) (i : Nat) (h : i < l.length) : ((l.take i ++ List.replicate (l.length - i) 0).map (Value.int .i64)).toArray.setIfInBounds i (.int .i64 (rd l i)) = ((l.take (i + 1) ++ List.replicate (l.length - (i + 1)) 0).map (Value.int .i64)).toArray := by
  obtain ⟨m, hm⟩ : ∃ m, l.length - i = m + 1 := ⟨l.length - i - 1, by omega⟩
  have hi : min i l.length = i := by omega
  rw [hm, show l.length - (i + 1) = m by omega, rd_nat l i h]
  simp [List.replicate_succ, List.set_append, hi]
  have e : List.take (i + 1) (List.map (Value.int .i64) l) = List.take i (List.map (Value.int .i64) l) ++ [Value.int .i64 l[i]] := by
    rw [List.take_succ_eq_append_getElem (by simpa using h), List.getElem_map]
  rw [e, List.append_assoc]
  rfl
theorem copy_cell {wr : World} {g : Nat} {l : List Int} {i : Nat} (h : intBlk wr g (l.take i ++ List.replicate (l.length - i) 0)) (hi : i < l.length) : wr.cell? ⟨g, i, none⟩ = some (.int .i64 0) := by
  obtain ⟨m, hm⟩ : ∃ m, l.length - i = m + 1 := ⟨l.length - i - 1, by omega⟩
  have hi : min i l.length = i := by omega
  rw [blk_cell h, hm]
  simp [List.replicate_succ, hi]

def RetI (w : World) (l : List Int) (e : Ending) (w' : World) : Prop := ∃ g : Nat, e = .returned (.slice (some ⟨g, 0, none⟩) l.length l.length) ∧ intBlk w' g l ∧ w.heap.size ≤ g ∧ Below w.heap.size w w'
def laws_toIntS.f (l0 : List Int) : Option (List Int) := if l0.length ≤ 17592186044416 then some l0 else none
/-- A table of copies while it is filled: i rows are there. -/
structure CopyAt (w wr : World) (g0 : Nat) (T : List (List Int)) (i : Nat) (gs : Nat → Nat) : Prop where
  below : Below w.heap.size w wr
  ge : w.heap.size ≤ g0
  top : rowBlk wr g0 ((List.range i).map (fun k => Value.slice (some ⟨gs k, 0, none⟩) (T.getD k []).length (T.getD k []).length) ++ List.replicate (T.length - i) (.slice none 0 0))
  each : ∀ k, k < i → g0 < gs k ∧ intBlk wr (gs k) (T.getD k [])
  inj : ∀ k k', k < k' → k' < i → gs k < gs k'
theorem CopyAt.init (w : World) (T : List (List Int)) : CopyAt w (w.alloc (.cells (madeCells #[.slice none 0 0] T.length) 30)) w.heap.size T 0 (fun _ => 0) where
  below := below_alloc (Below.refl _ _) _
  ge := Nat.le_refl _
  top := by
    unfold rowBlk
    rw [madeRows]
    simpa using blk_new w _
  each := fun k hk => by omega
  inj := fun k k' h1 h2 => by omega
theorem CopyAt.drew {w wr : World} {g0 i : Nat} {T : List (List Int)} {gs : Nat → Nat} (h : CopyAt w wr g0 T i gs) : CopyAt w wr.drew g0 T i gs where
  below := below_drew h.below
  ge := h.ge
  top := h.top
  each := h.each
  inj := h.inj
theorem CopyAt.mono {w wr wr' : World} {g0 i : Nat} {T : List (List Int)} {gs : Nat → Nat} (h : CopyAt w wr g0 T i gs) (hb : Below wr.heap.size wr wr') : CopyAt w wr' g0 T i gs where
  below := below_step h.below hb
  ge := h.ge
  top := blk_below h.top hb
  each := fun k hk => ⟨(h.each k hk).1, blk_below (h.each k hk).2 hb⟩
  inj := h.inj
theorem CopyAt.cell {w wr : World} {g0 i : Nat} {T : List (List Int)} {gs : Nat → Nat} (h : CopyAt w wr g0 T i gs) (hi : i < T.length) : wr.cell? ⟨g0, i, none⟩ = some (.slice none 0 0) := by
  rw [blk_cell h.top]
  obtain ⟨m, hm⟩ : ∃ m, T.length - i = m + 1 := ⟨T.length - i - 1, by omega⟩
  simp [hm, List.replicate_succ]
theorem CopyAt.free {w wr : World} {g0 i : Nat} {T : List (List Int)} {gs : Nat → Nat} (h : CopyAt w wr g0 T i gs) (x : Nat) : wr.frozen? ⟨g0, x, none⟩ = false := blk_frozen h.top x
theorem CopyAt.next {w wr : World} {g0 i gi : Nat} {T : List (List Int)} {gs : Nat → Nat} (h : CopyAt w wr g0 T i gs) (hi : i < T.length) (hr : intBlk wr gi (T.getD i [])) (hgt : g0 < gi) (hnew : ∀ k, k < i → gs k < gi) :
    CopyAt w (wr.setCell ⟨g0, i, none⟩ (.slice (some ⟨gi, 0, none⟩) (T.getD i []).length (T.getD i []).length)) g0 T (i + 1) (fun k => if k = i then gi else gs k) where
  below := h.below.setCell h.ge _
  ge := h.ge
  top := by
    have e : (List.range (i + 1)).map (fun k => Value.slice (some ⟨if k = i then gi else gs k, 0, none⟩) (T.getD k []).length (T.getD k []).length) = (List.range i).map (fun k => Value.slice (some ⟨gs k, 0, none⟩) (T.getD k []).length (T.getD k []).length) ++ [.slice (some ⟨gi, 0, none⟩) (T.getD i []).length (T.getD i []).length] := by
      rw [List.range_succ, List.map_append]
      congr 1
      · apply List.map_congr_left
        intro k hk
        rw [if_neg (by have := List.mem_range.1 hk; omega)]
      · simp
    unfold rowBlk
    rw [e]
    refine blk_put h.top i _ ?_
    obtain ⟨m, hm⟩ : ∃ m, T.length - i = m + 1 := ⟨T.length - i - 1, by omega⟩
    rw [hm, show T.length - (i + 1) = m by omega]
    simp [List.replicate_succ, List.set_append]
  each := fun k hk => by
    by_cases e : k = i
    · subst e
      rw [if_pos rfl]
      exact ⟨hgt, blk_far hr (by show gi ≠ g0; omega) _⟩
    · rw [if_neg e]
      obtain ⟨h1, h2⟩ := h.each k (by omega)
      exact ⟨h1, blk_far h2 (by show gs k ≠ g0; omega) _⟩
  inj := fun k k' h1 h2 => by
    rw [if_neg (show ¬ k = i by omega)]
    by_cases e : k' = i
    · rw [if_pos e]; exact hnew k (by omega)
    · rw [if_neg e]; exact h.inj k k' h1 (by omega)
theorem CopyAt.mtab {w wr : World} {g0 : Nat} {T : List (List Int)} {gs : Nat → Nat} (h : CopyAt w wr g0 T T.length gs) : MTab wr w.heap.size g0 gs T where
  ge := h.ge
  top := by
    have := h.top
    rw [Nat.sub_self] at this
    simpa using this
  each := fun k hk => by
    obtain ⟨h1, h2⟩ := h.each k hk
    have := h.ge
    exact ⟨by omega, by omega, h2⟩
  inj := fun k k' hk hk' e => by
    rcases Nat.lt_trichotomy k k' with hlt | he | hlt
    · have := h.inj k k' hlt hk'; omega
    · exact he
    · have := h.inj k' k hlt hk; omega

theorem rowsAt {w : World} {A : Option Addr} {n : Nat} {xs : List (List Int)} (h : Kd.C (Kd.slice 3 (Kd.int .i64)) w A n xs) (i : Nat) (h1 : i < n) : ∃ ad A0 c0, A = some ad ∧ w.cell? (ad.add i) = some (.slice A0 (xs.getD i []).length c0) ∧ (xs.getD i []).length ≤ c0 ∧ (Kd.int .i64).C w A0 (xs.getD i []).length (xs.getD i []) := by
  obtain ⟨ad, c, e, _, hK, hc0⟩ := Kd.C_get h ([] : List Int) (i : Int) (by omega) (by omega)
  obtain ⟨A0, c0, rfl, l0, g0⟩ := hK
  have hq := hc0 0 _ rfl
  simp only [Int.toNat_natCast] at hq l0 g0
  exact ⟨ad, A0, c0, e, by have : (Kd.slice 3 (Kd.int .i64)).sz = 1 := rfl; rw [this, Nat.mul_one, Nat.add_zero] at hq; exact hq, l0, g0⟩

def rowsOk (T : List (List Int)) : Prop := T.length ≤ 11728124029610 ∧ ∀ r ∈ T, r.length ≤ 17592186044416
theorem rowsOk.at_ {T : List (List Int)} (h : rowsOk T) (i : Nat) : (T.getD i []).length ≤ 17592186044416 := by
  rw [List.getD_eq_getElem?_getD]
  rcases Nat.lt_or_ge i T.length with hi | hi
  · rw [List.getElem?_eq_getElem hi]; exact h.2 _ (List.getElem_mem hi)
  · rw [List.getElem?_eq_none hi]; simp
def laws_toIntSS.f (l0 : List (List Int)) : Option (List (List Int)) := if l0.length ≤ 11728124029610 ∧ (l0.all fun r => decide (r.length ≤ 17592186044416)) = true then some l0 else none
end Go.Proofs.YtojohgjjlljbiaaDoor
