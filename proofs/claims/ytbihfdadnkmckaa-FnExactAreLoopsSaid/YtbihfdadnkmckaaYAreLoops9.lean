/- The program's AreLoops answers as the reference's AreLoops, for all loops; the loops stay as they were (the walk of the law FnExactAreLoops; no condition). -/
import Derived.Test.YtbihfdadnkmckaaYAreLoops8
namespace Go.Proofs.Ytbihfdadnkmckaa.Law
open Go.RowKit Go.Proofs.Ytbihfdadnkmckaa Go.Proofs.Ytbihfdadnkmckaa.P Go.Proofs.Ytbihfdadnkmckaa.L Go.Proofs.YtbihfdadnkmckaaW.PrintWords Go.Proofs.YtbihfdadnkmckaaW.PrintLast Go.Proofs.YtbihfdadnkmckaaW.PrintMore

theorem areLoops_pure (n : Int) (a d : List (List Int)) (t : Int) (ht : Ev (fun k => laws_szLoops.f k n a d 1048576) t) (hd : t < 0 ∨ (fewRows a ∧ fewRows d)) : ∃ k, laws_FnExactAreLoops.f k n a d = some true := by
 refine Ev.rounds ?_
 unfold laws_FnExactAreLoops.f
 refine Ev.bind ht ?_
 by_cases hn : t < 0
 ·exact Ev.ite_pos hn (Ev.now _)
 ·obtain ⟨h1, h2⟩ := hd.resolve_left hn
  refine Ev.ite_neg hn (Ev.some_bind (toLo_eq n a d h1 h2) (Ev.bind (areLoops_ev n a d h1 h2) (Ev.some_bind (toLo_eq n a d h1 h2) (Ev.some_bind (a := (fromR n a d).2) rfl (Ev.ite_neg (by simp) (Ev.some_bind (toLo_eq n a d h1 h2) (Ev.bind (eqLo_ev n a d h1 h2) (Ev.ite_pos rfl (Ev.now _)))))))))
theorem FnExactAreLoops (n : Int) (_hn : (Lit.int .i64 n).wf = true) (A : Option Addr) (cap : Nat) (l : List (List Int)) (A2 : Option Addr) (cap2 : Nat) (l2 : List (List Int)) {W0 : World} (h : RowsLo W0 A l.length cap l) (h2 : RowsLo W0 A2 l2.length cap2 l2) (W : World) (hW : W = W0) :
  Calls Try.prog 4 #[.agg #[.int .i64 n, .slice A l.length cap, .slice A2 l2.length cap2]] W fun e w' => e = .returned (.bool true) ∧ Below W.heap.size W w' := by
 subst hW
 obtain ⟨t, ht, hd⟩ := szLo n h h2
 obtain ⟨k, hk⟩ := areLoops_pure n l l2 t ht hd
 exact laws_FnExactAreLoops.calls k n A cap l A2 cap2 l2 true W h.read h.le h2.read h2.le hk
end Go.Proofs.Ytbihfdadnkmckaa.Law
