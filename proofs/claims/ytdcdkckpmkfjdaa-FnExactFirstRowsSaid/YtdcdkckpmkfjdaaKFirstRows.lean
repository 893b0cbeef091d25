/- The program's FirstRows answers as the reference's FirstRows, for every number; what comes back is the call's own (the walk of the law FnExactFirstRows; no condition). -/
import Derived.Test.YtdcdkckpmkfjdaaQFirstRows
import Derived.Test.YtdcdkckpmkfjdaaUb
import Derived.Test.YtdcdkckpmkfjdaaPx38
namespace Go.Proofs.Ytdcdkckpmkfjdaa.Law
open Go.RowKit Go.Proofs.Ytdcdkckpmkfjdaa Go.Proofs.Ytdcdkckpmkfjdaa.P Go.Proofs.Ytdcdkckpmkfjdaa.L Go.Proofs.YtdcdkckpmkfjdaaW.PrintWords Go.Proofs.YtdcdkckpmkfjdaaW.PrintLast Go.Proofs.YtdcdkckpmkfjdaaW.PrintMore

theorem impl_FirstRows_calls (n : Int) (w : World) : Calls Try.prog 39 #[.int .i64 n] w (RetTT w (if inB n 1 4 = true then frX n else []) (inB n 1 4)) := by
  have hw := fun W => impl_within.calls n 1 4 (inB n 1 4) W rfl
  cases hi : inB n 1 4 with
  | false =>
    rw [hi] at hw
    rw [if_neg (by simp)]
    clear hi
    go_enter Try.func39, Try.ntmps39
    go_wp2_with (go_at_call 93; refine (hw _).mono ?_; rintro e w1 ⟨rfl, hd⟩; have hb := hd.below; clear hd)
    go_ret2
    exact ⟨_, rfl, Kd.S_nil _ _ _ _ _, hb⟩
  | true =>
    rw [hi] at hw
    obtain ⟨h0, h1⟩ := inB_true hi
    have HC := Aside0.mk (fun W => impl_firstRows_calls n h0 (by omega) W)
    rw [if_pos rfl]
    clear hi
    go_enter Try.func39, Try.ntmps39
    go_wp2_with (first | (go_at_call 93; refine (hw _).mono ?_; rintro e w1 ⟨rfl, hd⟩; have HB := Aside0.mk hd.below; clear hd) | (go_at_call 94; refine (HC.out _).mono ?_; rintro e w2 ⟨v, rfl, hS, hb⟩; have HS := Aside0.mk (Kd.S_lower hS HB.out.size); have HB2 := Aside0.mk (below_step HB.out hb); clear hS hb))
    go_ret2
    exact ⟨_, rfl, HS.out, HB2.out⟩
theorem spec_FirstRows_ev (n : Int) : spec_FirstRows.f 300 n = some (if inB n 1 4 = true then frX n else [], inB n 1 4) := by
  unfold spec_FirstRows.f spec_dpSmall.f
  rw [in_eq]
  simp only [Option.bind_some]
  cases hi : inB n 1 4 with
  | false => rw [if_neg (by simp), if_neg (by simp)]
  | true =>
    obtain ⟨h0, h1⟩ := inB_true hi
    rw [if_pos rfl, if_pos rfl, (fr_all h0 (by omega)).2.1]
    rfl
theorem FnExactFirstRows (n : Int) (_hx : (Lit.int .i64 n).wf = true) {W0 : World} (W : World) (_hW : W = W0) :
    Calls Try.prog 10 #[.int .i64 n] W fun e w' => e = .returned (.bool true) ∧ Below W.heap.size W w' := by
  refine lawFirstRows n _ _ W ?_ (fun W' => (spec_FirstRows.calls 300 n _ _ W' (spec_FirstRows_ev n)).mono fun e w' h => RetC.of_N h) (fun W' => impl_FirstRows_calls n W')
  cases hi : inB n 1 4 with
  | false => exact ⟨by simp, fun r hr => by simp at hr⟩
  | true =>
    obtain ⟨h0, h1⟩ := inB_true hi
    obtain ⟨_, _, h2, h3⟩ := fr_all h0 (show n ≤ 6 by omega)
    rw [if_pos rfl]
    exact ⟨by omega, fun r hr => by have := h3 r hr; omega⟩
end Go.Proofs.Ytdcdkckpmkfjdaa.Law
