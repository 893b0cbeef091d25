/- The program's RowSets answers as the reference's RowSets, for every table; the table stays as it was, and what comes back is the call's own (the walk of the law FnExactRowSets; no condition). -/
import Derived.Test.YtlpadkbpbmoliaaQRowSets
import Derived.Test.YtlpadkbpbmoliaaLt
import Derived.Test.YtlpadkbpbmoliaaPx16
namespace Go.Proofs.Ytlpadkbpbmoliaa.Law
open Go.RowKit Go.Proofs.Ytlpadkbpbmoliaa Go.Proofs.Ytlpadkbpbmoliaa.P Go.Proofs.Ytlpadkbpbmoliaa.L Go.Proofs.YtlpadkbpbmoliaaW.PrintWords Go.Proofs.YtlpadkbpbmoliaaW.PrintLast Go.Proofs.YtlpadkbpbmoliaaW.PrintMore

theorem impl_TriangleOf.callsG (A0 : Option Addr) (c0 : Nat) (l0 : List (List Int)) (w : World) (hr0 : Kd.C (Kd.slice 3 (Kd.int .i64)) w A0 l0.length l0) (hc0 : l0.length ≤ c0) :
    Calls Try.prog 60 #[.slice A0 l0.length c0] w (RetT w (changedT trianM l0) (isSign l0)) := by
  have hch := impl_changed.callsG 104 trianM A0 c0 l0 w hr0 hc0 (enters_of Try.func104 (by kernel_rfl) rfl)
    (fun hs W hb => by
      obtain ⟨k, hk⟩ := (triangle_ev l0 hs).rounds
      exact impl_triangle.calls k A0 c0 l0 _ W (Kd.C_below hr0 hb) hc0 hk)
  clear hr0 hc0
  go_enter Try.func60, Try.ntmps60
  go_wp2_with (go_at_call 62; refine hch.mono ?_; rintro e w1 ⟨v, rfl, hS, hb⟩; have HS := Aside0.mk hS; have HB := Aside0.mk hb; clear hS hb)
  go_ret2
  exact ⟨v, rfl, HS.out, HB.out⟩
theorem impl_RowSets.callsG (A0 : Option Addr) (c0 : Nat) (l0 : List (List Int)) (w : World) (hr0 : Kd.C (Kd.slice 3 (Kd.int .i64)) w A0 l0.length l0) (hc0 : l0.length ≤ c0) :
    Calls Try.prog 18 #[.slice A0 l0.length c0] w (RetT w (changedT trianM l0) (isSign l0)) := by
  have hch := impl_TriangleOf.callsG A0 c0 l0 w hr0 hc0
  clear hr0 hc0
  go_enter Try.func18, Try.ntmps18
  go_wp2_with (go_at_call 60; refine hch.mono ?_; rintro e w1 ⟨v, rfl, hS, hb⟩; have HS := Aside0.mk hS; have HB := Aside0.mk hb; clear hS hb)
  go_ret2
  exact ⟨v, rfl, HS.out, HB.out⟩
theorem spec_RowSets_ev (l : List (List Int)) (hf : fewRows l) : Ev (fun k => spec_RowSets.f k l) (changedT trianM l, isSign l) := by
  unfold spec_RowSets.f changedT
  cases hs : isSign l with
  | false => exact Ev.bind (hs ▸ sgGood_ev l hf) (Ev.ite_neg (by simp) (Ev.now _))
  | true => exact Ev.bind (hs ▸ sgGood_ev l hf) (Ev.ite_pos rfl (Ev.bind (weSets_ev l hs) (Ev.now _)))
theorem trianT_few (l : List (List Int)) : fewRows (changedT trianM l) := by
  unfold changedT
  split
  · rename_i hs
    have h2 := (isSign_facts hs).2.1
    refine ⟨by rw [trianM, trianTo_length]; omega, fun r hr => ?_⟩
    obtain ⟨i, _, rfl⟩ := List.mem_map.1 hr
    have := setRow_le l i l.length
    omega
  · exact ⟨by simp, fun r hr => by cases hr⟩
theorem FnExactRowSets (A : Option Addr) (cap : Nat) (l : List (List Int)) {W0 : World} (h : RowsIn W0 A l.length cap l) (W : World) (hW : W = W0) :
    Calls Try.prog 3 #[.slice A l.length cap] W fun e w' => e = .returned (.bool true) ∧ Below W.heap.size W w' := by
  subst hW
  refine lawRowSets A cap l W h fun hf => ?_
  obtain ⟨k, hk⟩ := (spec_RowSets_ev l hf).rounds
  exact ⟨changedT trianM l, isSign l, trianT_few l, fun W' A' c' h1 h2 => spec_RowSets.calls k A' c' l _ _ W' h1 h2 hk, fun W' A' c' h1 h2 => impl_RowSets.callsG A' c' l W' h1 h2⟩
end Go.Proofs.Ytlpadkbpbmoliaa.Law
