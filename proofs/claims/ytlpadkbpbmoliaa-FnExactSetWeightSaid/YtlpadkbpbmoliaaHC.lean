import Derived.Test.YtlpadkbpbmoliaaHA
import Derived.Test.YtlpadkbpbmoliaaWKept
import Derived.Test.YtlpadkbpbmoliaaWApart
namespace Go.Proofs.Ytlpadkbpbmoliaa
open Go.RowKit Go.Proofs.YtlpadkbpbmoliaaW.PrintWords Go.Proofs.YtlpadkbpbmoliaaW.PrintLast Go.Proofs.YtlpadkbpbmoliaaW.PrintMore
set_option linter.unusedVariables false
set_option linter.unusedSimpArgs false

/-- A table of the call's own comes back, and whether it counts. -/
def RetT (w : World) (T : List (List Int)) (b : Bool) (e : Ending) (w' : World) : Prop := ∃ v0_ : Value, e = .returned (.tuple #[v0_, .bool b]) ∧ Kd.S (Kd.slice 3 (Kd.int .i64)) 29 w' w.heap.size (fun _ => True) v0_ T ∧ Below w.heap.size w w'
def RetS (w : World) (T : List (List Int)) (e : Ending) (w' : World) : Prop := ∃ v0_ : Value, e = .returned (v0_) ∧ Kd.S (Kd.slice 3 (Kd.int .i64)) 29 w' w.heap.size (fun _ => True) v0_ T ∧ Below w.heap.size w w'
def changedT (f : List (List Int) → List (List Int)) (l : List (List Int)) : List (List Int) := if isSign l = true then f l else []
set_option maxHeartbeats 1000000 in
theorem impl_changed.callsG (g : Nat) (f : List (List Int) → List (List Int)) (A0 : Option Addr) (c0 : Nat) (l0 : List (List Int)) (w : World) (hr0 : Kd.C (Kd.slice 3 (Kd.int .i64)) w A0 l0.length l0) (hc0 : l0.length ≤ c0)
    (eg : ∀ args w, (callFunc g args).run Try.prog w = .ok (.enter g args) w)
    (hg : isSign l0 = true → ∀ W, Below w.heap.size w W → Calls Try.prog g #[.slice A0 l0.length c0] W (RetS W (f l0))) :
    Calls Try.prog 62 #[.slice A0 l0.length c0, .func (.func g) #[] #[]] w (RetT w (changedT f l0) (isSign l0)) := by
  have hsg := impl_IsSignMatrix.calls' A0 c0 l0 w hr0 hc0
  have HD := Aside0.mk (show changedT f l0 = if isSign l0 = true then f l0 else [] from rfl)
  clear hr0 hc0
  cases hs : isSign l0 with
  | false =>
    rw [hs] at hsg
    have HE := Aside0.mk (show changedT f l0 = [] by rw [HD.out, hs]; rfl)
    clear hg HD hs
    go_enter Try.func62, Try.ntmps62
    go_wp2_with (go_at_call 65; refine hsg.mono ?_; rintro e w1 ⟨rfl, hb⟩)
    go_ret2
    exact ⟨_, rfl, by rw [HE.out]; exact Kd.S_nil _ _ _ _ _, hb⟩
  | true =>
    rw [hs] at hsg
    have HE := Aside0.mk (show changedT f l0 = f l0 by rw [HD.out, hs]; rfl)
    have HG := Aside0.mk (hg hs)
    clear hg HD hs
    go_enter Try.func62, Try.ntmps62
    go_wp2_with (first | (go_at_call 65; refine hsg.mono ?_; rintro e w1 ⟨rfl, hb⟩; have HB := Aside0.mk hb; clear hb) | (go_at_fn g; refine (HG.out _ HB.out).mono ?_; rintro e w2 ⟨v, rfl, hS, hb⟩; have HS := Aside0.mk (Kd.S_lower hS HB.out.size); have HB2 := Aside0.mk (below_step HB.out hb); clear hS hb))
    go_ret2
    exact ⟨v, rfl, by rw [HE.out]; exact HS.out, HB2.out⟩

end Go.Proofs.Ytlpadkbpbmoliaa
