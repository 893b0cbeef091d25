/- The program's AllDescending answers as the reference's AllDescending, for every number; what comes back is the call's own (the walk of the law FnExactAllDescending; no condition). -/
import Derived.Test.YtdcdkckpmkfjdaaQAllDescending
import Derived.Test.YtdcdkckpmkfjdaaUA
import Derived.Test.YtdcdkckpmkfjdaaPx42
namespace Go.Proofs.Ytdcdkckpmkfjdaa.Law
open Go.RowKit Go.Proofs.Ytdcdkckpmkfjdaa Go.Proofs.Ytdcdkckpmkfjdaa.P Go.Proofs.Ytdcdkckpmkfjdaa.L Go.Proofs.YtdcdkckpmkfjdaaW.PrintWords Go.Proofs.YtdcdkckpmkfjdaaW.PrintLast Go.Proofs.YtdcdkckpmkfjdaaW.PrintMore
set_option maxRecDepth 100000

theorem sa_1 : spec_AllDescending.f 1000 1 = some (dsX 1, true) := by decide +kernel
theorem sa_2 : spec_AllDescending.f 1000 2 = some (dsX 2, true) := by decide +kernel
theorem sa_3 : spec_AllDescending.f 1000 3 = some (dsX 3, true) := by decide +kernel
theorem sa_4 : spec_AllDescending.f 1000 4 = some (dsX 4, true) := by decide +kernel
theorem spec_AllDescending_ev (n : Int) : spec_AllDescending.f 1000 n = some (dsA n, inB n 1 4) := by
  unfold dsA
  cases hi : inB n 1 4 with
  | false =>
    unfold spec_AllDescending.f
    rw [small_eq, hi]
    simp only [Option.bind_some]
    rw [if_neg (by simp), if_neg (by simp)]
  | true =>
    obtain ⟨h0, h1⟩ := inB_true hi
    rw [if_pos rfl]
    have e : n = 1 ∨ n = 2 ∨ n = 3 ∨ n = 4 := by omega
    rcases e with rfl | rfl | rfl | rfl
    · exact sa_1
    · exact sa_2
    · exact sa_3
    · exact sa_4
theorem FnExactAllDescending (n : Int) (_hx : (Lit.int .i64 n).wf = true) {W0 : World} (W : World) (_hW : W = W0) :
    Calls Try.prog 12 #[.int .i64 n] W fun e w' => e = .returned (.bool true) ∧ Below W.heap.size W w' :=
  lawAllDescending n _ _ W (dsA_few n) (fun W' => (spec_AllDescending.calls 1000 n _ _ W' (spec_AllDescending_ev n)).mono fun _ _ h => RetC.of_N h) (fun W' => impl_AllDescending_calls n W')
end Go.Proofs.Ytdcdkckpmkfjdaa.Law
