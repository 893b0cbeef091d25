/- slices.Clone of numbers, under the name that the print gives it where there are two Clones. -/
import Derived.Test.YtdcdkckpmkfjdaaHA
namespace Go.Proofs.Ytdcdkckpmkfjdaa
open Go.RowKit Go.Proofs.YtdcdkckpmkfjdaaW.PrintWords Go.Proofs.YtdcdkckpmkfjdaaW.PrintLast Go.Proofs.YtdcdkckpmkfjdaaW.PrintMore
def slices_Clone_int_int_132.f (l0 : List Int) : Option (List Int) := slices_Clone_int_int.f l0
theorem slices_Clone_int_int_132.calls (A0 : Option Addr) (c0 : Nat) (l0 : List Int) (r : List Int) (w : World) (hr0 : Kd.C (Kd.int .i64) w A0 l0.length l0) (hc0 : l0.length ≤ c0) (h : slices_Clone_int_int_132.f l0 = some r) :
    Calls Try.prog 132 #[.slice A0 l0.length c0] w fun e w' => ∃ v0_ : Value, e = .returned (v0_) ∧ Kd.R (Kd.int .i64) 3 w' w.heap.size (fun _ => True) v0_ r ∧ Below w.heap.size w w' := by
  exact slices_Clone_int_int.calls A0 c0 l0 r w hr0 hc0 h
end Go.Proofs.Ytdcdkckpmkfjdaa
