/- The program's CountByDeterminant answers as the reference's CountByDeterminant, for every number (no condition). -/
import Derived.Test.YteknfnknjebkcaaPx3
namespace Go.Proofs.Yteknfnknjebkcaa.Pure
open Go.RowKit Go.Proofs.Yteknfnknjebkcaa.P Go.Proofs.YteknfnknjebkcaaW.PrintWords Go.Proofs.YteknfnknjebkcaaW.PrintLast
set_option maxRecDepth 100000

theorem at_1 : laws_FnExactCountByDeterminant.f 300 1 = some true := by decide +kernel
theorem at_2 : laws_FnExactCountByDeterminant.f 300 2 = some true := by decide +kernel
theorem at_3 : laws_FnExactCountByDeterminant.f 300 3 = some true := by decide +kernel
theorem at_4 : laws_FnExactCountByDeterminant.f 300 4 = some true := by decide +kernel
theorem at_5 : laws_FnExactCountByDeterminant.f 300 5 = some true := by decide +kernel
theorem at_6 : laws_FnExactCountByDeterminant.f 300 6 = some true := by decide +kernel
theorem FnExactCountByDeterminant : laws_FnExactCountByDeterminant.Pure := by
  intro a0 _
  by_cases h : 1 ≤ a0 ∧ a0 ≤ 6
  · have e : a0 = 1 ∨ a0 = 2 ∨ a0 = 3 ∨ a0 = 4 ∨ a0 = 5 ∨ a0 = 6 := by omega
    rcases e with rfl | rfl | rfl | rfl | rfl | rfl
    · exact ⟨300, at_1⟩
    · exact ⟨300, at_2⟩
    · exact ⟨300, at_3⟩
    · exact ⟨300, at_4⟩
    · exact ⟨300, at_5⟩
    · exact ⟨300, at_6⟩
  · have hi : inB a0 1 6 = false := by
      cases hq : inB a0 1 6 with
      | false => rfl
      | true => exact absurd ((inB_iff _ _ _).1 hq) h
    refine ⟨300, ?_⟩
    have e1 : spec_CountByDeterminant.f 300 a0 = some (0, false) := by
      unfold spec_CountByDeterminant.f spec_l1In.f
      by_cases h1 : 1 ≤ a0
      · have h2 : ¬ a0 ≤ 6 := fun h2 => h ⟨h1, h2⟩
        simp [h1, h2]
      · simp [h1]
    have e2 : impl_CountByDeterminant.f 300 a0 = some (0, false) := by
      unfold impl_CountByDeterminant.f impl_isDescended.f impl_within.f
      rw [hi]
      rfl
    unfold laws_FnExactCountByDeterminant.f
    rw [e1, e2]
    rfl
end Go.Proofs.Yteknfnknjebkcaa.Pure
