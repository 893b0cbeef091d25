/- The program's RowWave answers as the reference's RowWave, for every table; the table stays as it was, and what comes back is the call's own (the walk of the law FnExactRowWave; no condition). -/
import Derived.Test.YtflhhbpgkjpbdaaQRowWave
import Derived.Test.YtflhhbpgkjpbdaaHV
namespace Go.Proofs.Ytflhhbpgkjpbdaa.Law
open Go.RowKit Go.Proofs.Ytflhhbpgkjpbdaa Go.Proofs.Ytflhhbpgkjpbdaa.P Go.Proofs.Ytflhhbpgkjpbdaa.L Go.Proofs.YtflhhbpgkjpbdaaW.PrintWords Go.Proofs.YtflhhbpgkjpbdaaW.PrintLast Go.Proofs.YtflhhbpgkjpbdaaW.PrintMore

theorem toggledT_few {l : List (List Int)} (hs : isSign l = true) (c : List (Nat × Nat)) : fewRows (toggledT l c) := by
  have h2 := (isSign_facts hs).2.1
  refine ⟨by rw [toggledT_length]; omega, fun r hr => ?_⟩
  obtain ⟨i, _, rfl⟩ := List.mem_map.1 hr
  rw [rowL_length]; omega
theorem flip2_few {l : List (List Int)} (hs : isSign l = true) (a b : Int) : fewRows (flip2 l a b) := toggledT_few (flipT_sign hs a) _
theorem fewRowWave (l : List (List Int)) : fewRows (changedT (waveT) l) := by
  unfold changedT
  split
  · rename_i hs
    exact toggledT_few hs _
  · exact ⟨by simp, fun r hr => by cases hr⟩
theorem FnExactRowWave (A : Option Addr) (cap : Nat) (l : List (List Int)) {W0 : World} (h : RowsIn W0 A l.length cap l) (W : World) (hW : W = W0) :
    Calls Try.prog 5 #[.slice A l.length cap] W fun e w' => e = .returned (.bool true) ∧ Below W.heap.size W w' := by
  subst hW
  refine lawRowWave A cap l W h fun hf => ?_
  exact ⟨changedT (waveT) l, isSign l, fewRowWave l, fun W' A' c' h1 h2 => spec_RowWave.callsG A' c' l W' hf h1 h2, fun W' A' c' h1 h2 => impl_RowWave.callsG A' c' l W' h1 h2⟩
end Go.Proofs.Ytflhhbpgkjpbdaa.Law
