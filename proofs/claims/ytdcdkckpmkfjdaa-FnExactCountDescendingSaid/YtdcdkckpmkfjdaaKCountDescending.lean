/- The program's CountDescending answers as the reference's CountDescending, for every number (the walk of the law FnExactCountDescending; no condition). -/
import Derived.Test.YtdcdkckpmkfjdaaUA
import Derived.Test.YtdcdkckpmkfjdaaPx47
namespace Go.Proofs.Ytdcdkckpmkfjdaa.Law
open Go.RowKit Go.Proofs.Ytdcdkckpmkfjdaa Go.Proofs.Ytdcdkckpmkfjdaa.P Go.Proofs.Ytdcdkckpmkfjdaa.L Go.Proofs.YtdcdkckpmkfjdaaW.PrintWords Go.Proofs.YtdcdkckpmkfjdaaW.PrintLast Go.Proofs.YtdcdkckpmkfjdaaW.PrintMore
set_option linter.unusedVariables false

/-- How many tables there are. -/
def dsN (n : Int) : Int := if inB n 1 5 = true then ((dsX n).length : Int) else 0
theorem impl_CountDescending_calls (n : Int) (w : World) : Calls Try.prog 48 #[.int .i64 n] w fun e w' => e = .returned (.tuple #[.int .i64 (dsN n), .bool (inB n 1 5)]) ∧ Below w.heap.size w w' := by
  have hw := fun W => impl_within.calls n 1 5 (inB n 1 5) W rfl
  unfold dsN
  cases hi : inB n 1 5 with
  | false =>
    rw [hi] at hw
    rw [if_neg (by simp)]
    clear hi
    go_enter Try.func48, Try.ntmps48
    go_wp2_with (go_at_call 93; refine (hw _).mono ?_; rintro e w1 ⟨rfl, hd⟩; have hb := hd.below; clear hd)
    go_ret2
    exact ⟨rfl, hb⟩
  | true =>
    rw [hi] at hw
    obtain ⟨h0, h1⟩ := inB_true hi
    have HC := Aside0.mk (fun W => impl_descending_calls n h0 h1 W)
    rw [if_pos rfl]
    clear hi
    go_enter Try.func48, Try.ntmps48
    go_wp2_with (first | (go_at_call 93; refine (hw _).mono ?_; rintro e w1 ⟨rfl, hd⟩; have HB := Aside0.mk hd.below; clear hd) | (go_at_call 89; refine (HC.out _).mono ?_; rintro e w2 ⟨v, rfl, hS, hb⟩; obtain ⟨A1, c1, rfl⟩ := Kd.R_slice (Kd.S_R hS); have HB2 := Aside0.mk (below_step HB.out hb); clear hS hb))
    go_ret2
    exact ⟨rfl, HB2.out⟩
theorem spec_CountDescending_ev (n : Int) : spec_CountDescending.f 1000 n = some (dsN n, inB n 1 5) := by
  unfold spec_CountDescending.f dsN
  rw [in_eq]
  simp only [Option.bind_some]
  cases hi : inB n 1 5 with
  | false => rw [if_neg (by simp), if_neg (by simp)]
  | true =>
    obtain ⟨h0, h1⟩ := inB_true hi
    rw [if_pos rfl, if_pos rfl, (ds_all h0 h1).sp]
    rfl
theorem lawCountDescending (n : Int) (W : World) :
    Calls Try.prog 13 #[.int .i64 n] W fun e w' => e = .returned (.bool true) ∧ Below W.heap.size W w' := by
  have hs := fun W => spec_CountDescending.calls 1000 n _ _ W (spec_CountDescending_ev n)
  have hi := impl_CountDescending_calls n
  obtain ⟨r, hr⟩ : ∃ r, r = dsN n := ⟨_, rfl⟩
  obtain ⟨b, hb⟩ : ∃ b, b = inB n 1 5 := ⟨_, rfl⟩
  rw [← hr, ← hb] at hs hi
  clear hr hb
  have HB := Aside0.mk (Below.refl W.heap.size W)
  go_enter Try.func13, Try.ntmps13
  go_wp2_with (first
    | (go_at_call 47; refine (hs _).mono ?_; rintro e w1 ⟨rfl, hb⟩; (have n_ := Aside0.mk (below_step HB.out hb)); clear HB; have HB := n_; clear hb)
    | (go_at_call 48; refine (hi _).mono ?_; rintro e w1 ⟨rfl, hb⟩; (have n_ := Aside0.mk (below_step HB.out hb)); clear HB; have HB := n_; clear hb))
  go_ret
  exact ⟨rfl, HB.out⟩
theorem FnExactCountDescending (n : Int) (_hx : (Lit.int .i64 n).wf = true) {W0 : World} (W : World) (_hW : W = W0) :
    Calls Try.prog 13 #[.int .i64 n] W fun e w' => e = .returned (.bool true) ∧ Below W.heap.size W w' := lawCountDescending n W
end Go.Proofs.Ytdcdkckpmkfjdaa.Law
