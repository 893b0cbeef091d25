/- Givens of the print for the orbits. -/
import Derived.Test.YtflhhbpgkjpbdaaLB
import Derived.Test.YtflhhbpgkjpbdaaHf
namespace Go.Proofs.Ytflhhbpgkjpbdaa
open Go.RowKit Go.Proofs.Ytflhhbpgkjpbdaa.P Go.Proofs.Ytflhhbpgkjpbdaa.L Go.Proofs.YtflhhbpgkjpbdaaW.PrintWords Go.Proofs.YtflhhbpgkjpbdaaW.PrintLast Go.Proofs.YtflhhbpgkjpbdaaW.PrintMore
set_option linter.unusedVariables false

def spec_gyNext.f (l0 : List (List Int)) : Option (List (List Int)) := if isSign l0 = true then some (flip2 l0 0 1) else none
theorem spec_gyNext.calls (A0 : Option Addr) (c0 : Nat) (l0 : List (List Int)) (r : List (List Int)) (w : World) (hr0 : Kd.C (Kd.slice 3 (Kd.int .i64)) w A0 l0.length l0) (hc0 : l0.length ≤ c0) (h : spec_gyNext.f l0 = some r) :
    Calls Try.prog 77 #[.slice A0 l0.length c0] w fun e w' => ∃ v0_ : Value, e = .returned (v0_) ∧ Kd.S (Kd.slice 3 (Kd.int .i64)) 43 w' w.heap.size (fun _ => True) v0_ r ∧ Below w.heap.size w w' := by
  unfold spec_gyNext.f at h
  by_cases hs : isSign l0 = true
  · rw [if_pos hs] at h
    obtain rfl := Option.some.inj h
    exact spec_gyNext.callsG A0 c0 l0 w hs hr0 hc0
  · rw [if_neg hs] at h
    cases h
def impl_gyrated.f (l0 : List (List Int)) : Option (List (List Int)) := if isSign l0 = true then some (flip2 l0 0 1) else none
theorem impl_gyrated.calls (A0 : Option Addr) (c0 : Nat) (l0 : List (List Int)) (r : List (List Int)) (w : World) (hr0 : Kd.C (Kd.slice 3 (Kd.int .i64)) w A0 l0.length l0) (hc0 : l0.length ≤ c0) (h : impl_gyrated.f l0 = some r) :
    Calls Try.prog 78 #[.slice A0 l0.length c0] w fun e w' => ∃ v0_ : Value, e = .returned (v0_) ∧ Kd.S (Kd.slice 3 (Kd.int .i64)) 43 w' w.heap.size (fun _ => True) v0_ r ∧ Below w.heap.size w w' := by
  unfold impl_gyrated.f at h
  by_cases hs : isSign l0 = true
  · rw [if_pos hs] at h
    obtain rfl := Option.some.inj h
    exact impl_gyrated.callsG A0 c0 l0 w hs hr0 hc0
  · rw [if_neg hs] at h
    cases h
def impl_compareTables.f (l0 : List (List Int)) (l1 : List (List Int)) : Option Int := some (cmpT l0 l1)
theorem impl_compareTables.calls (A0 : Option Addr) (c0 : Nat) (l0 : List (List Int)) (A1 : Option Addr) (c1 : Nat) (l1 : List (List Int)) (r : Int) (w : World) (hr0 : Kd.C (Kd.slice 3 (Kd.int .i64)) w A0 l0.length l0) (hc0 : l0.length ≤ c0) (hr1 : Kd.C (Kd.slice 3 (Kd.int .i64)) w A1 l1.length l1) (hc1 : l1.length ≤ c1) (h : impl_compareTables.f l0 l1 = some r) :
    Calls Try.prog 88 #[.slice A0 l0.length c0, .slice A1 l1.length c1] w fun e w' => e = .returned (.int .i64 r) ∧ Below w.heap.size w w' := by
  obtain rfl := Option.some.inj h
  exact (impl_compareTables.calls' A0 c0 l0 A1 c1 l1 w hr0 hr1).mono fun e w' h => by first | exact h | exact ⟨h.1, by rw [← h.2]; exact Below.refl _ _⟩ | exact ⟨h.1, h.2.below⟩
end Go.Proofs.Ytflhhbpgkjpbdaa
