/- Texts of one chain, in build order. -/
import Derived.Test.YtdcdkckpmkfjdaaYBWeightSumSetSum20
import Derived.Test.YtdcdkckpmkfjdaaWMore
namespace Go.Proofs.Ytdcdkckpmkfjdaa.L
open Go.RowKit Go.Proofs.Ytdcdkckpmkfjdaa Go.Proofs.Ytdcdkckpmkfjdaa.P Go.Proofs.YtdcdkckpmkfjdaaW.PrintWords Go.Proofs.YtdcdkckpmkfjdaaW.PrintLast Go.Proofs.YtdcdkckpmkfjdaaW.PrintMore
set_option linter.unusedVariables false

theorem wrap_off (a : Int) : ∃ k : Int, wrap64 a = a + k * 18446744073709551616 := ⟨-((a + 9223372036854775808) / 18446744073709551616), by unfold wrap64; omega⟩
theorem wrap_add (a k : Int) : wrap64 (a + k * 18446744073709551616) = wrap64 a := by unfold wrap64; omega
theorem wrap_mul (a b : Int) : wrap64 (wrap64 a * b) = wrap64 (a * b) := by
 obtain ⟨k, hk⟩ := wrap_off a
 rw [hk, show (a + k * 18446744073709551616) * b = a * b + (k * b) * 18446744073709551616 by rw [Int.add_mul, Int.mul_assoc k, Int.mul_comm 18446744073709551616 b, ← Int.mul_assoc]]
 exact wrap_add _ _
theorem wrap_mul' (a b : Int) : wrap64 (a * wrap64 b) = wrap64 (a * b) := by rw [Int.mul_comm, wrap_mul, Int.mul_comm]
theorem wrap_wrap (a : Int) : wrap64 (wrap64 a) = wrap64 a := by unfold wrap64; omega
/-- The factor of place j of row i, and the product of the first j. -/
def fac (T : List (List Int)) (q : Int) (i j : Nat) : Int :=
 if i + 1 = T.length then 1 else if rd (T.getD i []) j = rd (T.getD (i + 1) []) j then q else if rd (T.getD i []) j = rd (T.getD (i + 1) []) (j + 1 : Nat) then 1 else 1 + q
def facP (T : List (List Int)) (q : Int) (i : Nat) : Nat → Int
 | 0 => 1
 | j + 1 => facP T q i j * fac T q i j
/-- The sum of the row ahead. -/
def ahead (T : List (List Int)) : Nat → Int
 | 0 => 0
 | i + 1 => sumW (T.getD i [])
def setW (T : List (List Int)) (xs : List Int) (q : Int) : Nat → Int
 | 0 => 1
 | i + 1 => wrap64 (setW T xs q i * (facP T q i (T.getD i []).length * pw (rd xs i) (wrap64 (sumW (T.getD i []) - ahead T i)).toNat))
theorem setW_wrap (T : List (List Int)) (xs : List Int) (q : Int) : ∀ i, wrap64 (setW T xs q i) = setW T xs q i
 | 0 => by rw [setW]; unfold wrap64; omega
 | i + 1 => by rw [setW, wrap_wrap]
theorem setWeight_l1 (T : List (List Int)) (xs : List Int) (q : Int) (i : Nat) (hi : i < T.length) (hn : T.length ≤ 6) (hlen : ∀ i, i < T.length → (T.getD i []).length = i + 1) (hx : xs.length = T.length) (r : Int)
  (hr : Ev (fun k => spec_weSetWeight.l0 k xs q T (setW T xs q (i + 1)) (sumW (T.getD i [])) T T.length (wrap64 ((i : Int) + 1))) r) :
  ∀ (d j : Nat), j + d = (T.getD i []).length → Ev (fun k => spec_weSetWeight.l1 k xs q T (wrap64 (setW T xs q i * facP T q i j)) (ahead T i) i (sumTo (T.getD i []) j) T T.length i (T.getD i []) (T.getD i []).length j) r := by
 intro d
 induction d with
 | zero =>
  intro j hj
  refine Ev.step (fun k => by rw [spec_weSetWeight.l1]) ?_
  have e : j = (T.getD i []).length := by omega
  rw [← e]
  refine Ev.ite_neg (by omega) (Ev.ite_pos (by omega) (Ev.ite_pos (by omega) (Ev.bind (spec_power_ev _ _ (by unfold wrap64; omega)) ?_)))
  have e2 : sumTo (T.getD i []) j = sumW (T.getD i []) := by unfold sumW; rw [e]
  rw [e2, wrap_mul, Int.mul_assoc]
  have e3 : wrap64 (setW T xs q i * (facP T q i j * pw (rd xs i) (wrap64 (sumW (T.getD i []) - ahead T i)).toNat)) = setW T xs q (i + 1) := by rw [setW, e]
  rw [e3]
  exact hr
 | succ d ih =>
  intro j hj
  have hl := hlen i hi
  have hz : (0 : Int) ≤ (j : Int) := by omega
  have hjz : (j : Int) < ((T.getD i []).length : Int) := by omega
  have hnext := ih (j + 1) (by omega)
  rw [facP, ← Int.mul_assoc, sumTo] at hnext
  refine Ev.step (fun k => by rw [spec_weSetWeight.l1]) ?_
  refine Ev.ite_pos hjz (Ev.ite_pos hz (Ev.ite_pos hjz ?_))
  rw [wrapS i (by omega), wrapS j (by omega)]
  by_cases c1 : i + 1 = T.length
  ·have hf : fac T q i j = 1 := by unfold fac; rw [if_pos c1]
   rw [hf, Int.mul_one] at hnext
   exact Ev.ite_pos (by omega) hnext
  ·have hl2 := hlen (i + 1) (by omega)
   have hrow : rd_L1 T ((i + 1 : Nat) : Int) = T.getD (i + 1) [] := rd1_get T (i + 1)
   rw [hrow]
   refine Ev.ite_neg (by omega) (Ev.ite_pos (by omega) (Ev.ite_pos (by omega) (Ev.ite_pos (by omega) ?_)))
   by_cases c2 : rd (T.getD i []) (j : Int) = rd (T.getD (i + 1) []) (j : Int)
   ·have hf : fac T q i j = q := by unfold fac; rw [if_neg c1, if_pos c2]
    rw [hf] at hnext
    rw [wrap_mul]
    exact Ev.ite_pos c2 hnext
   ·refine Ev.ite_neg c2 (Ev.ite_pos (by omega) (Ev.ite_pos (by omega) ?_))
    by_cases c3 : rd (T.getD i []) (j : Int) = rd (T.getD (i + 1) []) ((j + 1 : Nat) : Int)
    ·have hf : fac T q i j = 1 := by unfold fac; rw [if_neg c1, if_neg c2, if_pos c3]
     rw [hf, Int.mul_one] at hnext
     exact Ev.ite_pos c3 hnext
    ·have hf : fac T q i j = 1 + q := by unfold fac; rw [if_neg c1, if_neg c2, if_neg c3]
     rw [hf] at hnext
     rw [wrap_mul, wrap_mul']
     exact Ev.ite_neg c3 hnext
theorem setWeight_l0 (T : List (List Int)) (xs : List Int) (q : Int) (hn : T.length ≤ 6) (hlen : ∀ i, i < T.length → (T.getD i []).length = i + 1) (hx : xs.length = T.length) :
  ∀ (d i : Nat), i + d = T.length → Ev (fun k => spec_weSetWeight.l0 k xs q T (setW T xs q i) (ahead T i) T T.length i) (setW T xs q T.length) := by
 intro d
 induction d with
 | zero =>
  intro i hi
  refine Ev.step (fun k => by rw [spec_weSetWeight.l0]) ?_
  have hi2 : i = T.length := by omega
  subst hi2
  exact Ev.ite_neg (by omega) (Ev.now _)
 | succ d ih =>
  intro i hi
  refine Ev.step (fun k => by rw [spec_weSetWeight.l0]) ?_
  refine Ev.ite_pos (by omega) (Ev.ite_pos (by omega) (Ev.ite_pos (by omega) ?_))
  rw [rd1_get]
  have h := setWeight_l1 T xs q i (by omega) hn hlen hx (setW T xs q T.length) (by rw [wrapS i (by omega)]; exact ih (i + 1) (by omega)) (T.getD i []).length 0 (by omega)
  rw [facP, Int.mul_one, setW_wrap] at h
  exact h
theorem weSetWeight_ev (m : List (List Int)) (hs : isSign m = true) (xs : List Int) (q : Int) (hx : xs.length = m.length) : Ev (fun k => spec_weSetWeight.f k m xs q) (setW (trianM m) xs q m.length) := by
 have h2 := (isSign_facts hs).2.1
 have hl : (trianM m).length = m.length := trianTo_length _ _
 have hlen : ∀ i, i < (trianM m).length → ((trianM m).getD i []).length = i + 1 := fun i hi => by
  rw [hl] at hi
  have e : (trianM m).getD i [] = setRow m i m.length := by simp [trianM, trianTo, List.getD_eq_getElem?_getD, hi]
  rw [e, setRow_length hs i hi]
 unfold spec_weSetWeight.f
 refine Ev.bind (weSets_ev m hs) ?_
 have := setWeight_l0 (trianM m) xs q (by omega) hlen (by omega) m.length 0 (by omega)
 rw [hl] at this ⊢
 exact this
theorem facP_last (T : List (List Int)) (q : Int) (i : Nat) (h : i + 1 = T.length) : ∀ j, facP T q i j = 1
 | 0 => rfl
 | j + 1 => by rw [facP, facP_last T q i h j, fac, if_pos h]; rfl
theorem setW_last (T : List (List Int)) (xs : List Int) (q : Int) (i : Nat) (h : i + 1 = T.length) : setW T xs q T.length = wrap64 (setW T xs q i * pw (rd xs i) (wrap64 (sumW (T.getD i []) - ahead T i)).toNat) := by
 have e : setW T xs q T.length = setW T xs q (i + 1) := congrArg _ h.symm
 rw [e, setW, facP_last T q i h, Int.one_mul]
end Go.Proofs.Ytdcdkckpmkfjdaa.L
