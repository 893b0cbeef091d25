/- The program's ParseDescending answers as the reference's, for every text. -/
import Derived.Test.YtojohgjjlljbiaaDoorQParseDescending
namespace Go.Proofs.YtojohgjjlljbiaaDoor.Law
open Go.RowKit Go.Proofs.YtojohgjjlljbiaaDoor Go.Proofs.YtojohgjjlljbiaaDoor.P Go.Proofs.YtojohgjjlljbiaaDoor.L Go.Proofs.YtojohgjjlljbiaaDoorW.PrintWords Go.Proofs.YtojohgjjlljbiaaDoorW.PrintLast Go.Proofs.YtojohgjjlljbiaaDoorW.PrintMore
set_option linter.unusedVariables false

set_option maxHeartbeats 4000000 in
set_option maxRecDepth 100000 in
theorem longParseDescending (s : ByteArray) (hz : (s.size : Int) > 1048576) (W : World) :
    Calls Tryd.prog 3 #[.string s] W fun e w' => e = .returned (.bool true) ∧ Below W.heap.size W w' := by
  have HB := Aside0.mk (Below.refl W.heap.size W)
  go_enter Tryd.func3, Tryd.ntmps3
  go_wp2
  go_ret
  exact ⟨rfl, HB.out⟩
theorem FnExactParseDescending (s : ByteArray) (W : World) (hm : HasMax W) :
    Calls Tryd.prog 3 #[.string s] W fun e w' => e = .returned (.bool true) ∧ Below W.heap.size W w' := by
  by_cases hz : (s.size : Int) > 1048576
  · exact longParseDescending s hz W
  · have hs : s.size ≤ 1048576 := by omega
    obtain ⟨h1, h2⟩ := pdR_small s
    obtain ⟨k, hk⟩ := (spec_pd s hs).rounds
    exact lawParseDescending s hz (pdR s) (pdB s) W hm ⟨by omega, fun r hr => by have := h2 r hr; omega⟩
      (fun W' => (spec_ParseDescending.calls k s _ _ W' hk).mono fun e w' h => RetC.of_R (by obtain ⟨v, he, hS, hb⟩ := h; exact ⟨v, he, Kd.S_R hS, hb⟩))
      (fun W' hm' => impl_pd s hs W' hm')
end Go.Proofs.YtojohgjjlljbiaaDoor.Law
