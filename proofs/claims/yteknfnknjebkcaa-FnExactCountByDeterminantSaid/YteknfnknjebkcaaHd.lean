import Derived.Test.YteknfnknjebkcaaProg
import Derived.Below
import Derived.Deep.Draws
import Derived.Deep.AppendLies
import Derived.Maps.AppendAt
import Derived.OwnWalk
import Derived.Laws.BytesArg
import Derived.Laws.MakeOwn
import Derived.Laws.OwnMore
import Derived.Deep.OwnRows
import Derived.Tactics
import Derived.Lib.ConvBytes
import Derived.Laws.Slices
import Derived.WalkKit
import Derived.KernelRfl
import Derived.RowKit3
import Derived.Deep.LoopGhost
import Derived.Deep.QuietTactic
import Derived.BigQuiet
import Derived.WideLaws
import Derived.Deep.DeepCutAuto
import Derived.Deep.CutBlock
import Derived.Deep.RegionHeld3
import Derived.Laws.Rows
import Derived.Lib.AppendStr
import Derived.ArgAppend
import Derived.Laws.IdiomCopy
import Derived.OrdersHeld
import Derived.Laws.BitsLemmas
import Derived.RowKit
import Derived.Shelf.Abstract
import Derived.Test.YteknfnknjebkcaaWMore
import Derived.Test.YteknfnknjebkcaaWTab
import Derived.Test.YteknfnknjebkcaaWFour
import Derived.Test.YteknfnknjebkcaaHt
namespace Go.Proofs.Yteknfnknjebkcaa
open Go.RowKit Go.Proofs.YteknfnknjebkcaaW.PrintWords Go.Proofs.YteknfnknjebkcaaW.PrintLast Go.Proofs.YteknfnknjebkcaaW.PrintMore
set_option linter.unusedVariables false
set_option linter.unusedSimpArgs false

def chW (n : Int) : Nat → Int
  | 0 => 1
  | j + 1 => wrap64 (Int.tdiv (wrap64 (chW n j * wrap64 (n - (j : Int)))) ((j : Int) + 1))
theorem impl_choose.calls' (n : Int) (k : Nat) (w : World) (hk : k ≤ 100) :
    Calls Try.prog 18 #[.int .i64 n, .int .i64 k] w fun e w' => e = .returned (.int .i64 (chW n k)) ∧ w = w' := by
  go_enter Try.func18, Try.ntmps18
  go_wp2
  go_loop [5, 6, 8] (fun s5 s6 s8 => ∃ j : Nat, j ≤ k ∧ s8 = .int .i64 j ∧ s5 = .int .i64 (chW n j)) (fun _ _ s8 => k - (intOf s8).toNat)
  case atStart => exact ⟨0, by omega, rfl, rfl⟩
  case round =>
    obtain ⟨j, hj, rfl, rfl⟩ := hrel
    by_cases hlt : j < k
    · have hz : (j : Int) < (k : Int) := by omega
      have hs : chW n (j + 1) = wrap64 (Int.tdiv (wrap64 (chW n j * wrap64 (n - (j : Int)))) ((j : Int) + 1)) := rfl
      have HS := Aside0.mk hs
      clear hs
      have hne : (((j : Int) + 1) == 0) = false := by rw [beq_eq_false_iff_ne]; omega
      go_wp2
      go_round
      case rel => exact ⟨j + 1, by omega, by go_num, by rw [HS.out]⟩
      case measure => simp [intOf]; omega
    · have hz : ¬ (j : Int) < (k : Int) := by omega
      have : j = k := by omega
      subst this
      go_wp2
      go_ret
      exact ⟨rfl, rfl⟩

def bitI (b : Bool) : Int := if b then 1 else 0
theorem impl_bit.calls' (b : Bool) (w : World) :
    Calls Try.prog 19 #[.bool b] w fun e w' => e = .returned (.int .i64 (bitI b)) ∧ w = w' := by
  cases b with
  | true =>
    go_enter Try.func19, Try.ntmps19
    go_wp2
    go_ret
    exact ⟨rfl, rfl⟩
  | false =>
    go_enter Try.func19, Try.ntmps19
    go_wp2
    go_ret
    exact ⟨rfl, rfl⟩

def detF (i j : Nat) : Int := wrap64 (chW ((i : Int) + j + 2) i + bitI (decide (i = j)))
theorem impl_CountByDeterminant_1.calls (i j : Nat) (hi : i < 100) (hj : j < 100) (W : World) :
    Gives Try.prog 17 #[.int .i64 i, .int .i64 j] W (.int .i64 (detF i j)) := by
  unfold Gives detF
  have hq : ((i : Int) == (j : Int)) = decide (i = j) := by by_cases h : i = j <;> simp [h]; omega
  have HQ := Aside0.mk hq
  clear hq
  go_enter Try.func17, Try.ntmps17
  go_wp2_with (first | (go_at_call 18; refine (impl_choose.calls' _ i _ (by omega)).mono ?_; rintro e w' ⟨rfl, rfl⟩) | (go_at_call 19; refine (impl_bit.calls' _ _).mono ?_; rintro e w' ⟨rfl, rfl⟩))
  go_ret
  exact ⟨by first | rfl | (rw [HQ.out]; rfl), Below.refl _ _⟩

def impl_table_at_impl_CountByDeterminant_1.f (a0 a1 : Int) (u : Unit) : Option (List (List Int)) := if 0 ≤ a0 ∧ a0 ≤ 100 ∧ 0 ≤ a1 ∧ a1 ≤ 100 then some (tableL detF a0.toNat a1.toNat) else none
theorem impl_table_at_impl_CountByDeterminant_1.calls (a0 : Int) (a1 : Int) (a2 : Unit) (r : List (List Int)) (w : World) (h : impl_table_at_impl_CountByDeterminant_1.f a0 a1 a2 = some r) :
    Calls Try.prog 16 #[.int .i64 a0, .int .i64 a1, .func (.func 17) #[] #[]] w fun e w' => ∃ v0_ : Value, e = .returned (v0_) ∧ Kd.S (Kd.slice 3 (Kd.int .i64)) 31 w' w.heap.size (fun _ => True) v0_ r ∧ Below w.heap.size w w' := by
  unfold impl_table_at_impl_CountByDeterminant_1.f at h
  by_cases hb : 0 ≤ a0 ∧ a0 ≤ 100 ∧ 0 ≤ a1 ∧ a1 ≤ 100
  · rw [if_pos hb] at h
    obtain rfl := Option.some.inj h
    obtain ⟨m, rfl⟩ := Int.eq_ofNat_of_zero_le hb.1
    obtain ⟨n, rfl⟩ := Int.eq_ofNat_of_zero_le hb.2.2.1
    exact impl_tableC.calls 17 #[] detF m n w (by omega) (by omega) (enters_of Try.func17 (by kernel_rfl) rfl)
      (fun i j W hi hj _ => impl_CountByDeterminant_1.calls i j (by omega) (by omega) W)
  · rw [if_neg hb] at h
    cases h
end Go.Proofs.Yteknfnknjebkcaa
