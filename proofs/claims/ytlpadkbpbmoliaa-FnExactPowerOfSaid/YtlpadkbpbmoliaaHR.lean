/- The walk of isWeights, as a given of the print. -/
import Derived.Test.YtlpadkbpbmoliaaHA
import Derived.Test.YtlpadkbpbmoliaaPx112
namespace Go.Proofs.Ytlpadkbpbmoliaa
open Go.RowKit Go.Proofs.Ytlpadkbpbmoliaa.P Go.Proofs.YtlpadkbpbmoliaaW.PrintWords Go.Proofs.YtlpadkbpbmoliaaW.PrintLast Go.Proofs.YtlpadkbpbmoliaaW.PrintMore
set_option linter.unusedVariables false
set_option linter.unusedSimpArgs false

def weightsB (t : List (List Int)) : Bool := inB t.length 1 4 && (squareB t && t.all fun r => r.all fun x => inB x 1 4)
theorem isWeights_1.calls (x : List Int) (A : Option Addr) (c : Nat) (W : World) (hx : Kd.C (Kd.int .i64) W A x.length x) (hc : x.length ≤ c) :
    Gives Try.prog 114 #[.slice A x.length c] W (.bool (!(x.all fun y => inB y 1 4))) := by
  unfold Gives
  have h := impl_areWithin.calls A c x 1 4 (x.all fun y => inB y 1 4) W hx hc rfl
  generalize (x.all fun y => inB y 1 4) = r at h
  clear hx
  go_enter Try.func114, Try.ntmps114
  go_wp2_with (go_at_call 115; refine h.mono ?_; rintro e w' ⟨rfl, hb⟩)
  go_ret
  exact ⟨rfl, by first | exact hb | exact hb.below⟩
def impl_isWeights.f (l0 : List (List Int)) : Option Bool := some (weightsB l0)
set_option maxHeartbeats 1000000 in
theorem impl_isWeights.calls (A0 : Option Addr) (c0 : Nat) (l0 : List (List Int)) (r : Bool) (w : World) (hr0 : Kd.C (Kd.slice 3 (Kd.int .i64)) w A0 l0.length l0) (hc0 : l0.length ≤ c0) (h : impl_isWeights.f l0 = some r) :
    Calls Try.prog 69 #[.slice A0 l0.length c0] w fun e w' => e = .returned (.bool r) ∧ Below w.heap.size w w' := by
  obtain rfl := Option.some.inj h
  clear h
  have eg : ∀ args w, (callFunc 114 args).run Try.prog w = .ok (.enter 114 args) w := enters_of Try.func114 (by kernel_rfl) rfl
  have hw := fun W => impl_isWeighted.calls l0.length (inB l0.length 1 4) W rfl
  have hsq := fun (W : World) (hb : Below w.heap.size w W) => impl_isSquare.callsG A0 c0 l0 W (Kd.C_below hr0 hb) hc0
  have hcf := fun (W : World) (hb : Below w.heap.size w W) => slices_ContainsFunc_rows.calls 114 #[] (fun x => !(x.all fun y => inB y 1 4)) A0 c0 l0 W eg (fun x A c W1 _ _ hcx hcc => isWeights_1.calls x A c W1 hcx hcc) (Kd.C_below hr0 hb) hc0
  have hall : (l0.all fun r => r.all fun x => inB x 1 4) = !(l0.any fun x => !(x.all fun y => inB y 1 4)) := all_any l0 _
  have HE := Aside0.mk (show weightsB l0 = (inB l0.length 1 4 && (squareB l0 && l0.all fun r => r.all fun x => inB x 1 4)) from rfl)
  rw [hall] at HE
  generalize (l0.any fun x => !(x.all fun y => inB y 1 4)) = q at hcf HE
  clear hall hr0
  cases h1 : inB (l0.length : Int) 1 4 with
  | false =>
    rw [h1] at hw HE
    clear h1
    go_enter Try.func69, Try.ntmps69
    go_wp2_with (go_at_call 112; refine (hw _).mono ?_; rintro e w1 ⟨rfl, hd⟩; have HB := Aside0.mk hd.below; clear hd)
    go_ret
    exact ⟨by rw [HE.out]; rfl, HB.out⟩
  | true =>
    rw [h1] at hw HE
    clear h1
    cases h2 : squareB l0 with
    | false =>
      rw [h2] at hsq HE
      clear h2
      go_enter Try.func69, Try.ntmps69
      go_wp2_with (first | (go_at_call 112; refine (hw _).mono ?_; rintro e w1 ⟨rfl, hd⟩; have HB := Aside0.mk hd.below; clear hd) | (go_at_call 91; refine (hsq _ HB.out).mono ?_; rintro e w2 ⟨rfl, hb⟩; have HB2 := Aside0.mk (below_step HB.out hb); clear hb))
      go_ret
      exact ⟨by rw [HE.out]; rfl, HB2.out⟩
    | true =>
      rw [h2] at hsq HE
      clear h2
      go_enter Try.func69, Try.ntmps69
      go_wp2_with (first | (go_at_call 112; refine (hw _).mono ?_; rintro e w1 ⟨rfl, hd⟩; have HB := Aside0.mk hd.below; clear hd) | (go_at_call 91; refine (hsq _ HB.out).mono ?_; rintro e w2 ⟨rfl, hb⟩; have HB2 := Aside0.mk (below_step HB.out hb); clear hb) | (go_at_call 113; refine (hcf _ HB2.out).mono ?_; rintro e w3 ⟨rfl, hb⟩; have HB3 := Aside0.mk (below_step HB2.out hb); clear hb))
      go_ret
      exact ⟨by rw [HE.out]; first | rfl | simp, HB3.out⟩
end Go.Proofs.Ytlpadkbpbmoliaa
