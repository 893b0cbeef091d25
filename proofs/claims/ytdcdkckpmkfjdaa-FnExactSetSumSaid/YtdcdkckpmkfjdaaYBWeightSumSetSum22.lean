/- Texts of one chain, in build order. -/
import Derived.Test.YtdcdkckpmkfjdaaYBWeightSumSetSum21
import Derived.Test.YtdcdkckpmkfjdaaWMore
namespace Go.Proofs.Ytdcdkckpmkfjdaa
open Go.RowKit Go.Proofs.YtdcdkckpmkfjdaaW.PrintWords Go.Proofs.YtdcdkckpmkfjdaaW.PrintLast Go.Proofs.YtdcdkckpmkfjdaaW.PrintMore
open L (setW facP fac pw)
set_option linter.unusedVariables false
set_option linter.unusedSimpArgs false

def RetS (w : World) (T : List (List Int)) (e : Ending) (w' : World) : Prop := ∃ v0_ : Value, e = .returned (v0_) ∧ Kd.S (Kd.slice 3 (Kd.int .i64)) 22 w' w.heap.size (fun _ => True) v0_ T ∧ Below w.heap.size w w'
set_option maxHeartbeats 8000000 in
set_option maxRecDepth 100000 in
theorem impl_setWeight.callsG (A0 : Option Addr) (c0 : Nat) (l0 : List (List Int)) (A1 : Option Addr) (c1 : Nat) (xs : List Int) (q : Int) (w : World) (T : List (List Int)) (h1 : 1 ≤ T.length) (hn : T.length ≤ 6) (hlen : ∀ i, i < T.length → (T.getD i []).length = i + 1) (hxl : xs.length = T.length) (hq0 : 0 ≤ q) (hq4 : q ≤ 4)
  (htr : Calls Try.prog 119 #[.slice A0 l0.length c0] w (RetS w T)) (hr1 : Kd.C (Kd.int .i64) w A1 xs.length xs) :
  Calls Try.prog 76 #[.slice A0 l0.length c0, .slice A1 xs.length c1, .int .i64 q] w fun e w' => e = .returned (.int .i64 (setW T xs q T.length)) ∧ Below w.heap.size w w' := by
 have HLEN := Aside0.mk hlen
 have HR1 := Aside0.mk hr1
 have HXL := Aside0.mk hxl
 clear hlen hr1 hxl
 go_enter Try.func76, Try.ntmps76
 go_wp2_with (go_at_call 119; refine htr.mono ?_; rintro e w1 ⟨v, rfl, hS, hb⟩; obtain ⟨AT, cT, rfl⟩ := Kd.R_slice (Kd.S_R hS); have HT := Aside0.mk (Kd.R_reads' (Kd.S_R hS)).2.2; have HB := Aside0.mk hb; clear hS hb)
 go_loopg [8, 9, 10, 11, 12, 13, 14, 19] T.length (fun gg s8 s9 s10 s11 s12 s13 s14 s19 wr => ∃ i : Nat, i < T.length ∧ T.length - i ≤ gg ∧ s19 = .int .i64 i ∧ s8 = .int .i64 (setW T xs q i) ∧ Aside0 (Below w1.heap.size w1 wr))
 case atStart => exact ⟨0, by omega, by omega, rfl, rfl, ⟨Below.refl _ _⟩⟩
 case round =>
  obtain ⟨i, hlt, hg, rfl, rfl, HW⟩ := hrel
  have hz : (i : Int) < (T.length : Int) := by omega
  obtain ⟨ad, Ar, cr, e0, hx, _, hrow⟩ := rowsAt HT.out i hlt
  cases e0
  replace hx := pw_cell_below HW.out hx
  have hrl := HLEN.out i hlt
  obtain ⟨ar, er, _⟩ := Kd.at_int hrow (0 : Nat) (by omega) (by omega)
  cases er
  have HROW := Aside0.mk hrow
  have HSM := Aside0.mk (fun W (hb : Below w1.heap.size w1 W) => impl_sum.calls' (some ar) cr (T.getD i []) W (Kd.C_below hrow hb))
  have hxi : i < xs.length := by rw [HXL.out]; exact hlt
  have hxz : (i : Int) < (xs.length : Int) := by omega
  obtain ⟨ax, e1, hy⟩ := Kd.at_int HR1.out (i : Int) (by omega) hxz
  cases e1
  simp only [Int.toNat_natCast] at hy
  replace hy := pw_cell_below (below_then HB.out HB.out.size HW.out) hy
  have HSL := Aside0.mk (L.setW_last T xs q i)
  have HSW := Aside0.mk (show setW T xs q (i + 1) = wrap64 (setW T xs q i * (facP T q i (T.getD i []).length * pw (rd xs i) (wrap64 (sumW (T.getD i []) - L.ahead T i)).toNat)) from rfl)
  obtain ⟨sm, hsm⟩ : ∃ z, z = sumW (T.getD i []) := ⟨_, rfl⟩
  have hsr : -9223372036854775808 ≤ sm ∧ sm ≤ 9223372036854775807 := by
   have hw_ : ∀ j, -9223372036854775808 ≤ sumTo (T.getD i []) j ∧ sumTo (T.getD i []) j ≤ 9223372036854775807 := fun j => by
    cases j with
    | zero => rw [sumTo]; omega
    | succ k => rw [sumTo]; exact wrap_in _
   rw [hsm]; exact hw_ _
  rw [← hsm] at HSW HSL HSM
  obtain ⟨xi, hxi2⟩ : ∃ z, z = rd xs i := ⟨_, rfl⟩
  rw [← hxi2] at hy HSW HSL
  obtain ⟨b0, hb0⟩ : ∃ z, z = setW T xs q i := ⟨_, rfl⟩
  rw [← hb0] at HSW HSL ⊢
  clear hsm hxi2 hb0 hxi
  have hrowz : ((T.getD i []).length : Int) = i + 1 := by omega
  obtain ⟨row, hrw⟩ : ∃ r, r = T.getD i [] := ⟨_, rfl⟩
  have HRW := Aside0.mk hrw
  rw [← hrw] at hx hrowz HSM HROW HSW hrl
  have hrl1 : row.length ≤ i + 1 := by omega
  have hrl2 : i + 1 ≤ row.length := by omega
  clear hrw hrow hrl
  by_cases hi0 : i = 0
  ·have hmo : wrap64 (sm - L.ahead T i) = sm := by
    rw [hi0, L.ahead, Int.sub_zero]; unfold wrap64; omega
   rw [hmo] at HSW HSL
   have hi1 : (i : Int) < 1 := by omega
   have hs1 := HSM.out wr HW.out
   have hpw := fun W => impl_power.calls' xi sm W (by omega)
   obtain ⟨pp, hpp⟩ : ∃ z, z = pw xi sm.toNat := ⟨_, rfl⟩
   rw [← hpp] at hpw HSW HSL
   clear hi0 hmo hpp
   by_cases hla : i + 1 = T.length
   ·have HE := Aside0.mk (show setW T xs q T.length = wrap64 (b0 * pp) from HSL.out hla)
    have hla1 : (i : Int) + 1 ≤ (T.length : Int) := by omega
    have hla2 : (T.length : Int) ≤ (i : Int) + 1 := by omega
    have hlb : ((i : Int) + 1 == (T.length : Int)) = true := by rw [beq_iff_eq]; omega
    clear hla
    skip
    go_wp2_with (first | (go_at_call 113; (with_reducible refine hs1.mono ?_); rintro e w2 ⟨rfl, rfl⟩) | (go_at_call 79; (with_reducible refine (hpw _).mono ?_); rintro e w2 ⟨rfl, ⟨nd, rfl⟩⟩))
    go_ret
    exact ⟨by rw [HE.out]; first | rfl | simp, by have := HW.out; repeat (first | exact below_then HB.out HB.out.size HW.out | apply below_drew | apply pw_below_drewN)⟩
   ·have hla2 : (i : Int) + 1 < (T.length : Int) := by omega
    have hlb : ((i : Int) + 1 == (T.length : Int)) = false := by rw [beq_eq_false_iff_ne]; omega
    obtain ⟨ad', An, cn, e0, hxn, _, hnrow⟩ := rowsAt HT.out (i + 1) (by omega)
    cases e0
    replace hxn := pw_cell_below HW.out hxn
    have hnl := HLEN.out (i + 1) (by omega)
    obtain ⟨an, er, _⟩ := Kd.at_int hnrow (0 : Nat) (by omega) (by omega)
    cases er
    have HNR := Aside0.mk hnrow
    have HFC := Aside0.mk (fun j : Nat => show fac T q i j = if i + 1 = T.length then 1 else if rd (T.getD i []) j = rd (T.getD (i + 1) []) j then q else if rd (T.getD i []) j = rd (T.getD (i + 1) []) (j + 1 : Nat) then 1 else 1 + q from rfl)
    have HLA := Aside0.mk hla
    rw [← HRW.out] at HFC
    obtain ⟨nxt, hnx⟩ : ∃ r, r = T.getD (i + 1) [] := ⟨_, rfl⟩
    rw [← hnx] at hxn HNR HFC hnl
    have hnl1 : nxt.length ≤ i + 2 := by omega
    have hnl2 : i + 2 ≤ nxt.length := by omega
    clear hla hnx hnrow hnl
    skip
    go_wp2_with (first | (go_at_call 113; (with_reducible refine hs1.mono ?_); rintro e w2 ⟨rfl, rfl⟩) | (go_at_call 79; (with_reducible refine (hpw _).mono ?_); rintro e w2 ⟨rfl, ⟨nd, rfl⟩⟩))
    go_loopg [8, 12, 13, 14, 51] row.length (fun gj s8 s12 s13 s14 s51 wr2 => ∃ (j : Nat) (y : Int), j ≤ row.length ∧ row.length - j ≤ gj ∧ s51 = .int .i64 j ∧ s8 = .int .i64 y ∧ Aside0 (y = wrap64 (b0 * (facP T q i j * pp))) ∧ Aside0 (Below w1.heap.size w1 wr2))
    case atStart => exact ⟨0, wrap64 (b0 * pp), Nat.zero_le _, Nat.le_refl _, rfl, rfl, ⟨by rw [facP, Int.one_mul]⟩, ⟨by repeat (first | exact HW.out | apply below_drew | apply pw_below_drewN)⟩⟩
    case round =>
     obtain ⟨j, y, hj, hgj, rfl, rfl, HY, HW2⟩ := hrel
     by_cases hjt : j < row.length
     ·have hjz : (j : Int) < (row.length : Int) := by omega
      obtain ⟨ar', e2, hr⟩ := Kd.at_int HROW.out (j : Int) (by omega) hjz
      cases e2
      obtain ⟨an', e3, hn0⟩ := Kd.at_int HNR.out (j : Int) (by omega) (by omega)
      cases e3
      obtain ⟨an', e3, hn1⟩ := Kd.at_int HNR.out ((j + 1 : Nat) : Int) (by omega) (by omega)
      cases e3
      simp only [Int.toNat_natCast] at hr hn0 hn1
      replace hr := pw_cell_below HW2.out hr
      replace hn0 := pw_cell_below HW2.out hn0
      replace hn1 := pw_cell_below HW2.out hn1
      have hxn2 : wr.cell? (ad.add (i + 1)) = some (.slice (some an) nxt.length cn) := by
       have hh := HT.out
       obtain ⟨ad'', An', cn', e0, hxn', _, hnrow'⟩ := rowsAt hh (i + 1) (by omega)
       cases e0
       have h3 := pw_cell_below HW2.out hxn'
       have h4 := pw_cell_below HW.out hxn'
       rw [h3, ← h4, hxn]
      rw [Addr.add_succ'] at hxn2 hn1
      have HF := Aside0.mk (HFC.out j)
      have HP := Aside0.mk (show facP T q i (j + 1) = facP T q i j * fac T q i j from rfl)
      obtain ⟨x, hxx⟩ : ∃ x, x = rd row (j : Int) := ⟨_, rfl⟩
      obtain ⟨n0, hnn0⟩ : ∃ x, x = rd nxt (j : Int) := ⟨_, rfl⟩
      obtain ⟨n1, hnn1⟩ : ∃ x, x = rd nxt ((j + 1 : Nat) : Int) := ⟨_, rfl⟩
      rw [← hxx] at hr HF
      rw [← hnn0] at hn0 HF
      rw [← hnn1] at hn1 HF
      clear hxx hnn0 hnn1
      have HMUL := Aside0.mk (fun f : Int => show fac T q i j = f → wrap64 (y * f) = wrap64 (b0 * (facP T q i (j + 1) * pp)) from fun hf => by
       rw [HY.out, L.wrap_mul, HP.out, hf, show b0 * (facP T q i j * pp) * f = b0 * (facP T q i j * f * pp) by rw [Int.mul_assoc, Int.mul_assoc (facP T q i j) pp f, Int.mul_comm pp f, ← Int.mul_assoc (facP T q i j) f pp]])
      by_cases e2 : x = n0
      ·have hb2 : (x == n0) = true := beq_iff_eq.2 e2
       have HR := Aside0.mk (HMUL.out q (by rw [HF.out, if_neg HLA.out, if_pos e2]))
       clear e2
       go_wp2
       go_roundg (row.length - (j + 1))
       case measure => omega
       case rel => exact ⟨j + 1, wrap64 (y * q), by omega, by omega, by go_num, rfl, HR, HW2⟩
      ·have hb2 : (x == n0) = false := beq_eq_false_iff_ne.2 e2
       by_cases e3 : x = n1
       ·have hb3 : (x == n1) = true := beq_iff_eq.2 e3
        have HR := Aside0.mk (HMUL.out 1 (by rw [HF.out, if_neg HLA.out, if_neg e2, if_pos e3]))
        have HR2 := Aside0.mk (show y = wrap64 (b0 * (facP T q i (j + 1) * pp)) by rw [← HR.out, Int.mul_one, HY.out, L.wrap_wrap])
        clear e2 e3
        go_wp2
        go_roundg (row.length - (j + 1))
        case measure => omega
        case rel => exact ⟨j + 1, y, by omega, by omega, by go_num, rfl, HR2, HW2⟩
       ·have hb3 : (x == n1) = false := beq_eq_false_iff_ne.2 e3
        have HR := Aside0.mk (HMUL.out (1 + q) (by rw [HF.out, if_neg HLA.out, if_neg e2, if_neg e3]))
        clear e2 e3
        go_wp2
        go_roundg (row.length - (j + 1))
        case measure => omega
        case rel => exact ⟨j + 1, wrap64 (y * (1 + q)), by omega, by omega, by go_num, by first | rfl | go_num, HR, HW2⟩
     ·have hjz : ¬ (j : Int) < (row.length : Int) := by omega
      have hjr : j = row.length := by omega
      have HYE := Aside0.mk (show y = setW T xs q (i + 1) by rw [HY.out, HSW.out, hjr])
      clear hjr
      go_wp2
      go_roundg (T.length - (i + 1))
      case measure => omega
      case rel => exact ⟨i + 1, by omega, by omega, by go_num, by rw [HYE.out], HW2⟩
  ·have hi1 : (1 : Int) ≤ (i : Int) := by omega
   obtain ⟨k, hk⟩ : ∃ k, i = k + 1 := ⟨i - 1, by omega⟩
   obtain ⟨adp, Ap, cp, e0, hxp, _, hprow⟩ := rowsAt HT.out (i - 1) (by omega)
   cases e0
   replace hxp := pw_cell_below HW.out hxp
   have hpl := HLEN.out (i - 1) (by omega)
   have hs1 := HSM.out wr HW.out
   have hs2 := impl_sum.calls' Ap cp (T.getD (i - 1) []) wr (Kd.C_below hprow HW.out)
   have hah : L.ahead T i = sumW (T.getD (i - 1) []) := by rw [hk]; rfl
   rw [hah] at HSW HSL
   obtain ⟨sp, hsp⟩ : ∃ z, z = sumW (T.getD (i - 1) []) := ⟨_, rfl⟩
   rw [← hsp] at hs2 HSW HSL
   have hmb := (wrap_in (sm - sp)).2
   have hpw := fun W => impl_power.calls' xi (wrap64 (sm - sp)) W hmb
   obtain ⟨pp, hpp⟩ : ∃ z, z = pw xi (wrap64 (sm - sp)).toNat := ⟨_, rfl⟩
   rw [← hpp] at hpw HSW HSL
   obtain ⟨prow, hprw⟩ : ∃ r, r = T.getD (i - 1) [] := ⟨_, rfl⟩
   rw [← hprw] at hxp hs2
   have hiw : ((i - 1 : Nat) : Int) = (i : Int) - 1 := by omega
   clear hk hah hsp hpp hprw hi0 hprow hpl
   by_cases hla : i + 1 = T.length
   ·have HE := Aside0.mk (show setW T xs q T.length = wrap64 (b0 * pp) from HSL.out hla)
    have hla1 : (i : Int) + 1 ≤ (T.length : Int) := by omega
    have hla2 : (T.length : Int) ≤ (i : Int) + 1 := by omega
    have hlb : ((i : Int) + 1 == (T.length : Int)) = true := by rw [beq_iff_eq]; omega
    clear hla
    skip
    go_wp2_with (first | (go_at_call 113; (with_reducible refine hs1.mono ?_); rintro e w2 ⟨rfl, rfl⟩) | (go_at_call 113; (with_reducible refine hs2.mono ?_); rintro e w2 ⟨rfl, rfl⟩) | (go_at_call 79; (with_reducible refine (hpw _).mono ?_); rintro e w2 ⟨rfl, ⟨nd, rfl⟩⟩))
    go_ret
    exact ⟨by rw [HE.out]; first | rfl | simp, by have := HW.out; repeat (first | exact below_then HB.out HB.out.size HW.out | apply below_drew | apply pw_below_drewN)⟩
   ·have hla2 : (i : Int) + 1 < (T.length : Int) := by omega
    have hlb : ((i : Int) + 1 == (T.length : Int)) = false := by rw [beq_eq_false_iff_ne]; omega
    obtain ⟨ad', An, cn, e0, hxn, _, hnrow⟩ := rowsAt HT.out (i + 1) (by omega)
    cases e0
    replace hxn := pw_cell_below HW.out hxn
    have hnl := HLEN.out (i + 1) (by omega)
    obtain ⟨an, er, _⟩ := Kd.at_int hnrow (0 : Nat) (by omega) (by omega)
    cases er
    have HNR := Aside0.mk hnrow
    have HFC := Aside0.mk (fun j : Nat => show fac T q i j = if i + 1 = T.length then 1 else if rd (T.getD i []) j = rd (T.getD (i + 1) []) j then q else if rd (T.getD i []) j = rd (T.getD (i + 1) []) (j + 1 : Nat) then 1 else 1 + q from rfl)
    have HLA := Aside0.mk hla
    rw [← HRW.out] at HFC
    obtain ⟨nxt, hnx⟩ : ∃ r, r = T.getD (i + 1) [] := ⟨_, rfl⟩
    rw [← hnx] at hxn HNR HFC hnl
    have hnl1 : nxt.length ≤ i + 2 := by omega
    have hnl2 : i + 2 ≤ nxt.length := by omega
    clear hla hnx hnrow hnl
    skip
    go_wp2_with (first | (go_at_call 113; (with_reducible refine hs1.mono ?_); rintro e w2 ⟨rfl, rfl⟩) | (go_at_call 113; (with_reducible refine hs2.mono ?_); rintro e w2 ⟨rfl, rfl⟩) | (go_at_call 79; (with_reducible refine (hpw _).mono ?_); rintro e w2 ⟨rfl, ⟨nd, rfl⟩⟩))
    go_loopg [8, 12, 13, 14, 51] row.length (fun gj s8 s12 s13 s14 s51 wr2 => ∃ (j : Nat) (y : Int), j ≤ row.length ∧ row.length - j ≤ gj ∧ s51 = .int .i64 j ∧ s8 = .int .i64 y ∧ Aside0 (y = wrap64 (b0 * (facP T q i j * pp))) ∧ Aside0 (Below w1.heap.size w1 wr2))
    case atStart => exact ⟨0, wrap64 (b0 * pp), Nat.zero_le _, Nat.le_refl _, rfl, rfl, ⟨by rw [facP, Int.one_mul]⟩, ⟨by repeat (first | exact HW.out | apply below_drew | apply pw_below_drewN)⟩⟩
    case round =>
     obtain ⟨j, y, hj, hgj, rfl, rfl, HY, HW2⟩ := hrel
     by_cases hjt : j < row.length
     ·have hjz : (j : Int) < (row.length : Int) := by omega
      obtain ⟨ar', e2, hr⟩ := Kd.at_int HROW.out (j : Int) (by omega) hjz
      cases e2
      obtain ⟨an', e3, hn0⟩ := Kd.at_int HNR.out (j : Int) (by omega) (by omega)
      cases e3
      obtain ⟨an', e3, hn1⟩ := Kd.at_int HNR.out ((j + 1 : Nat) : Int) (by omega) (by omega)
      cases e3
      simp only [Int.toNat_natCast] at hr hn0 hn1
      replace hr := pw_cell_below HW2.out hr
      replace hn0 := pw_cell_below HW2.out hn0
      replace hn1 := pw_cell_below HW2.out hn1
      have hxn2 : wr.cell? (ad.add (i + 1)) = some (.slice (some an) nxt.length cn) := by
       have hh := HT.out
       obtain ⟨ad'', An', cn', e0, hxn', _, hnrow'⟩ := rowsAt hh (i + 1) (by omega)
       cases e0
       have h3 := pw_cell_below HW2.out hxn'
       have h4 := pw_cell_below HW.out hxn'
       rw [h3, ← h4, hxn]
      rw [Addr.add_succ'] at hxn2 hn1
      have HF := Aside0.mk (HFC.out j)
      have HP := Aside0.mk (show facP T q i (j + 1) = facP T q i j * fac T q i j from rfl)
      obtain ⟨x, hxx⟩ : ∃ x, x = rd row (j : Int) := ⟨_, rfl⟩
      obtain ⟨n0, hnn0⟩ : ∃ x, x = rd nxt (j : Int) := ⟨_, rfl⟩
      obtain ⟨n1, hnn1⟩ : ∃ x, x = rd nxt ((j + 1 : Nat) : Int) := ⟨_, rfl⟩
      rw [← hxx] at hr HF
      rw [← hnn0] at hn0 HF
      rw [← hnn1] at hn1 HF
      clear hxx hnn0 hnn1
      have HMUL := Aside0.mk (fun f : Int => show fac T q i j = f → wrap64 (y * f) = wrap64 (b0 * (facP T q i (j + 1) * pp)) from fun hf => by
       rw [HY.out, L.wrap_mul, HP.out, hf, show b0 * (facP T q i j * pp) * f = b0 * (facP T q i j * f * pp) by rw [Int.mul_assoc, Int.mul_assoc (facP T q i j) pp f, Int.mul_comm pp f, ← Int.mul_assoc (facP T q i j) f pp]])
      by_cases e2 : x = n0
      ·have hb2 : (x == n0) = true := beq_iff_eq.2 e2
       have HR := Aside0.mk (HMUL.out q (by rw [HF.out, if_neg HLA.out, if_pos e2]))
       clear e2
       go_wp2
       go_roundg (row.length - (j + 1))
       case measure => omega
       case rel => exact ⟨j + 1, wrap64 (y * q), by omega, by omega, by go_num, rfl, HR, HW2⟩
      ·have hb2 : (x == n0) = false := beq_eq_false_iff_ne.2 e2
       by_cases e3 : x = n1
       ·have hb3 : (x == n1) = true := beq_iff_eq.2 e3
        have HR := Aside0.mk (HMUL.out 1 (by rw [HF.out, if_neg HLA.out, if_neg e2, if_pos e3]))
        have HR2 := Aside0.mk (show y = wrap64 (b0 * (facP T q i (j + 1) * pp)) by rw [← HR.out, Int.mul_one, HY.out, L.wrap_wrap])
        clear e2 e3
        go_wp2
        go_roundg (row.length - (j + 1))
        case measure => omega
        case rel => exact ⟨j + 1, y, by omega, by omega, by go_num, rfl, HR2, HW2⟩
       ·have hb3 : (x == n1) = false := beq_eq_false_iff_ne.2 e3
        have HR := Aside0.mk (HMUL.out (1 + q) (by rw [HF.out, if_neg HLA.out, if_neg e2, if_neg e3]))
        clear e2 e3
        go_wp2
        go_roundg (row.length - (j + 1))
        case measure => omega
        case rel => exact ⟨j + 1, wrap64 (y * (1 + q)), by omega, by omega, by go_num, by first | rfl | go_num, HR, HW2⟩
     ·have hjz : ¬ (j : Int) < (row.length : Int) := by omega
      have hjr : j = row.length := by omega
      have HYE := Aside0.mk (show y = setW T xs q (i + 1) by rw [HY.out, HSW.out, hjr])
      clear hjr
      go_wp2
      go_roundg (T.length - (i + 1))
      case measure => omega
      case rel => exact ⟨i + 1, by omega, by omega, by go_num, by rw [HYE.out], HW2⟩
end Go.Proofs.Ytdcdkckpmkfjdaa
