import Derived.Test.YtlpadkbpbmoliaaLk
import Derived.Test.YtlpadkbpbmoliaaHA
namespace Go.Proofs.Ytlpadkbpbmoliaa
open Go.RowKit Go.Proofs.YtlpadkbpbmoliaaW.PrintWords Go.Proofs.YtlpadkbpbmoliaaW.PrintLast Go.Proofs.YtlpadkbpbmoliaaW.PrintMore
set_option linter.unusedVariables false

/-- How often each kind is there. -/
def countsM (m : List (List Int)) : List Int := cntAll (kindsM m) (List.replicate 6 0)
theorem countsM_length (m : List (List Int)) : (countsM m).length = 6 := by rw [countsM, cntAll_length, List.length_replicate]
theorem kindsM_range {m : List (List Int)} (hs : isSign m = true) (i j : Nat) (hi : i < (kindsM m).length) (hj : j < ((kindsM m).getD i []).length) : 0 ≤ rd ((kindsM m).getD i []) j ∧ rd ((kindsM m).getD i []) j < 6 := by
  rw [kindsM, tableL_length] at hi
  rw [kindsM, tableL_get _ _ _ _ hi] at hj ⊢
  rw [rowL_length] at hj
  have e : rd (rowL (kF m) i m.length) (j : Int) = kF m i j := by rw [L.rd_at _ _ (by rw [rowL_length]; exact hj)]; simp [rowL]
  rw [e]
  have := kF_range hs hi hj
  omega
def impl_kindCounts.f (l0 : List (List Int)) : Option (List Int) := if isSign l0 = true then some (countsM l0) else none
theorem impl_kindCounts.calls (A0 : Option Addr) (c0 : Nat) (l0 : List (List Int)) (r : List Int) (w : World) (hr0 : Kd.C (Kd.slice 3 (Kd.int .i64)) w A0 l0.length l0) (hc0 : l0.length ≤ c0) (h : impl_kindCounts.f l0 = some r) :
    Calls Try.prog 66 #[.slice A0 l0.length c0] w fun e w' => ∃ v0_ : Value, e = .returned (v0_) ∧ Kd.R (Kd.int .i64) 3 w' w.heap.size (fun _ => True) v0_ r ∧ Below w.heap.size w w' := by
  unfold impl_kindCounts.f at h
  by_cases hs : isSign l0 = true
  · rw [if_pos hs] at h
    obtain rfl := Option.some.inj h
    exact impl_kindCounts.callsG A0 c0 l0 (kindsM l0) w (fun W hb => impl_kinds.calls A0 c0 l0 _ W (Kd.C_below hr0 hb) hc0 (by unfold impl_kinds.f; rw [if_pos hs])) (kindsM_range hs)
  · rw [if_neg hs] at h
    cases h
def spec_weCounts.f (l0 : List (List Int)) : Option (List Int) := if isSign l0 = true then some (countsM l0) else none
theorem spec_weCounts.calls (A0 : Option Addr) (c0 : Nat) (l0 : List (List Int)) (r : List Int) (w : World) (hr0 : Kd.C (Kd.slice 3 (Kd.int .i64)) w A0 l0.length l0) (hc0 : l0.length ≤ c0) (h : spec_weCounts.f l0 = some r) :
    Calls Try.prog 64 #[.slice A0 l0.length c0] w fun e w' => ∃ v0_ : Value, e = .returned (v0_) ∧ Kd.R (Kd.int .i64) 3 w' w.heap.size (fun _ => True) v0_ r ∧ Below w.heap.size w w' := by
  unfold spec_weCounts.f at h
  by_cases hs : isSign l0 = true
  · rw [if_pos hs] at h
    obtain rfl := Option.some.inj h
    obtain ⟨k, hk⟩ := (L.weKinds_ev l0 hs).rounds
    exact spec_weCounts.callsG A0 c0 l0 (kindsM l0) w (fun W hb => P.spec_weKinds.calls k A0 c0 l0 _ W (Kd.C_below hr0 hb) hc0 hk) (kindsM_range hs)
  · rw [if_neg hs] at h
    cases h
end Go.Proofs.Ytlpadkbpbmoliaa
