/- Texts of one chain, in build order. -/
import Derived.Test.YthlgclfhoeakgaaYBCountOrbitsCountFixedOrbitLengths43
namespace Go.Proofs.Ythlgclfhoeakgaa
open Go.RowKit Go.Proofs.Ythlgclfhoeakgaa.P Go.Proofs.Ythlgclfhoeakgaa.L Go.Proofs.YthlgclfhoeakgaaW.PrintWords Go.Proofs.YthlgclfhoeakgaaW.PrintLast Go.Proofs.YthlgclfhoeakgaaW.PrintMore
set_option linter.unusedVariables false
set_option maxRecDepth 100000

theorem each_all5 {n : Nat} (h0 : 1 ≤ n) (h1 : n ≤ 5) : EachSigns n (esX n) := by
 by_cases h : n ≤ 4
 ·exact eachSigns_all h0 h
 ·obtain rfl : n = 5 := by omega
  exact eachSigns_5
def impl_OrbitLengths.f (a0 : Int) : Option (List Int × Bool) := if inB a0 1 5 = true then some (olN a0.toNat, true) else some ([], false)
theorem impl_OrbitLengths.calls (a0 : Int) (r1 : List Int) (r2 : Bool) (w : World) (h : impl_OrbitLengths.f a0 = some (r1, r2)) :
  Calls Try.prog 19 #[.int .i64 a0] w fun e w' => ∃ v0_ : Value, e = .returned (.tuple #[v0_, .bool r2]) ∧ Kd.R (Kd.int .i64) 3 w' w.heap.size (fun _ => True) v0_ r1 ∧ Below w.heap.size w w' := by
 unfold impl_OrbitLengths.f at h
 cases hi : inB a0 1 5 with
 | false =>
  rw [hi, if_neg (by simp)] at h
  injection h with h
  injection h with h1 h2
  subst h1; subst h2
  have hw := fun W => impl_within.calls a0 1 5 false W (by unfold impl_within.f; rw [hi])
  clear hi
  go_enter Try.func19, Try.ntmps19
  go_wp2_with (go_at_call 33; refine (hw _).mono ?_; rintro e w1 ⟨rfl, hd⟩; have hb := hd.below; clear hd)
  go_ret2
  exact ⟨_, rfl, Kd.R_nil _ _ _ _ _, hb⟩
 | true =>
  rw [hi, if_pos rfl] at h
  injection h with h
  injection h with h1 h2
  subst h1; subst h2
  obtain ⟨h0, h5⟩ := (inB_iff a0 1 5).1 hi
  obtain ⟨m, rfl⟩ := Int.eq_ofNat_of_zero_le (show 0 ≤ a0 by omega)
  have hm0 : 1 ≤ m := by omega
  have hm5 : m ≤ 5 := by omega
  have hok := oc_all hm0 hm5
  have hES := each_all5 hm0 hm5
  rw [hok.es] at hES
  have hr := impl_OrbitLengths.callsG m hm0 hm5 (ocEL m) (ocCs m) (ocSs m) rfl rfl (oc_ok hok (by omega)) hES w
  rw [ocEL_length] at hr
  exact hr
end Go.Proofs.Ythlgclfhoeakgaa

namespace Go.Proofs.Ythlgclfhoeakgaa.L
open Go.RowKit Go.Proofs.Ythlgclfhoeakgaa Go.Proofs.Ythlgclfhoeakgaa.P Go.Proofs.YthlgclfhoeakgaaW.PrintWords Go.Proofs.YthlgclfhoeakgaaW.PrintLast Go.Proofs.YthlgclfhoeakgaaW.PrintMore
set_option linter.unusedVariables false

theorem olN_length {n : Nat} (h0 : 1 ≤ n) (h1 : n ≤ 5) : (olN n).length ≤ 429 := by
 have h := (oc_all h0 h1).len.1
 have := ocF_length n (ocC n).length
 unfold olN ocCs
 rw [List.length_map]; omega
theorem olN_mem {n : Nat} (h0 : 1 ≤ n) (h1 : n ≤ 5) {x : Int} (hx : x ∈ olN n) : 1 ≤ x ∧ x ≤ 100 := by
 unfold olN ocCs at hx
 obtain ⟨r, hr, rfl⟩ := List.mem_map.1 hx
 have hA := (oc_all h0 h1).at (ocF_mem.1 hr).1
 have h2 := ocI_pos _ _ _ _ _ _ hA.orb (by simp)
 have h3 := hA.few
 omega
theorem gyFew_eq (n : Int) : spec_gyFew.f n = some (inB n 1 5) := by unfold spec_gyFew.f; rw [l1In_eq]; rfl
theorem ol_false {n : Int} (h : inB n 1 5 = false) : impl_OrbitLengths.f n = some ([], false) := by unfold impl_OrbitLengths.f; rw [h]; rfl
theorem ol_true {m : Nat} (h : inB (m : Int) 1 5 = true) : impl_OrbitLengths.f (m : Int) = some (olN m, true) ∧ 1 ≤ m ∧ m ≤ 5 := by
 have h2 := (inB_iff _ _ _).1 h
 refine ⟨?_, by omega, by omega⟩
 unfold impl_OrbitLengths.f; rw [if_pos h, Int.toNat_natCast]
theorem in_nat {n : Int} (h : inB n 1 5 = true) : ∃ m : Nat, n = m := Int.eq_ofNat_of_zero_le (by have := (inB_iff _ _ _).1 h; omega)
end Go.Proofs.Ythlgclfhoeakgaa.L
