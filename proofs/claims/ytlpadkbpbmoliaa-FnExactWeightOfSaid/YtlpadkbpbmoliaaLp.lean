import Derived.Test.YtlpadkbpbmoliaaLs
import Derived.Test.YtlpadkbpbmoliaaPx119
import Derived.Test.YtlpadkbpbmoliaaPx118
namespace Go.Proofs.Ytlpadkbpbmoliaa.L
open Go.RowKit Go.Proofs.Ytlpadkbpbmoliaa Go.Proofs.Ytlpadkbpbmoliaa.P Go.Proofs.YtlpadkbpbmoliaaW.PrintWords Go.Proofs.YtlpadkbpbmoliaaW.PrintLast Go.Proofs.YtlpadkbpbmoliaaW.PrintMore
set_option linter.unusedVariables false

/-- The power, as the words hold it. -/
def pw (a : Int) : Nat → Int
  | 0 => 1
  | n + 1 => wrap64 (pw a n * a)
theorem impl_power_l0 (a n : Int) (h : n ≤ 9223372036854775807) : ∀ (d i : Nat), i + d = n.toNat → Ev (fun k => impl_power.l0 k a (pw a i) n i) (pw a n.toNat) := by
  intro d
  induction d with
  | zero =>
    intro i hi
    refine Ev.step (fun k => by rw [impl_power.l0]) ?_
    have e : i = n.toNat := by omega
    subst e
    exact Ev.ite_neg (by omega) (Ev.now _)
  | succ d ih =>
    intro i hi
    refine Ev.step (fun k => by rw [impl_power.l0]) ?_
    rw [wrapS i (by omega)]
    exact Ev.ite_pos (by omega) (ih (i + 1) (by omega))
theorem impl_power_ev (a n : Int) (h : n ≤ 9223372036854775807) : Ev (fun k => impl_power.f k a n) (pw a n.toNat) := impl_power_l0 a n h n.toNat 0 (by omega)
theorem spec_power_l0 (a : Int) : ∀ (d i : Nat), d ≤ 9223372036854775807 → Ev (fun k => spec_wePower.l0 k a d (pw a i)) (pw a (i + d)) := by
  intro d
  induction d with
  | zero =>
    intro i hd
    refine Ev.step (fun k => by rw [spec_wePower.l0]) ?_
    exact Ev.ite_neg (by omega) (Ev.now _)
  | succ d ih =>
    intro i hd
    refine Ev.step (fun k => by rw [spec_wePower.l0]) ?_
    refine Ev.ite_pos (by omega) ?_
    rw [show wrap64 (((d + 1 : Nat) : Int) - 1) = (d : Int) by unfold wrap64; omega, show i + (d + 1) = i + 1 + d by omega]
    exact ih (i + 1) (by omega)
theorem spec_power_ev (a n : Int) (h : n ≤ 9223372036854775807) : Ev (fun k => spec_wePower.f k a n) (pw a n.toNat) := by
  by_cases h0 : 0 ≤ n
  · have := spec_power_l0 a n.toNat 0 (by omega)
    rw [Nat.zero_add, Int.toNat_of_nonneg h0] at this
    exact this
  · unfold spec_wePower.f
    refine Ev.step (fun k => by rw [spec_wePower.l0]) ?_
    rw [show n.toNat = 0 by omega]
    exact Ev.ite_neg (by omega) (Ev.now _)
end Go.Proofs.Ytlpadkbpbmoliaa.L
