/- Texts of one chain, in build order. -/
import Derived.Test.YtdcdkckpmkfjdaaYSpreadOfParts2
import Derived.Test.YtdcdkckpmkfjdaaWMore
namespace Go.Proofs.Ytdcdkckpmkfjdaa.L
open Go.RowKit Go.Proofs.Ytdcdkckpmkfjdaa Go.Proofs.Ytdcdkckpmkfjdaa.P Go.Proofs.YtdcdkckpmkfjdaaW.PrintWords Go.Proofs.YtdcdkckpmkfjdaaW.PrintLast Go.Proofs.YtdcdkckpmkfjdaaW.PrintMore
set_option linter.unusedVariables false
set_option linter.unusedSimpArgs false
set_option maxRecDepth 100000

/-- A table of which the first numbers of a row have been made 0. -/
def zRow (T : List (List Int)) (i : Nat) : Nat → List (List Int)
 | 0 => T
 | k + 1 => putT (zRow T i k) i k 0
def zAll (T : List (List Int)) : Nat → List (List Int)
 | 0 => T
 | i + 1 => zRow (zAll T i) i ((zAll T i).getD i []).length
theorem putT_len (T : List (List Int)) (i j : Nat) (v : Int) : (putT T i j v).length = T.length := by simp [putT]
theorem putT_row (T : List (List Int)) (i j a : Nat) (v : Int) : ((putT T i j v).getD a []).length = (T.getD a []).length := by
 unfold putT
 by_cases h : a < T.length
 ·by_cases e : i = a
  ·subst e; simp [List.getD_eq_getElem?_getD, h]
  ·simp [List.getD_eq_getElem?_getD, List.getElem?_set, e]
 ·simp [List.getD_eq_getElem?_getD, List.getElem?_eq_none (show T.length ≤ a by omega), List.getElem?_eq_none (show (T.set i ((T[i]?.getD []).set j v)).length ≤ a by simp; omega)]
theorem zRow_len (T : List (List Int)) (i : Nat) : ∀ k, (zRow T i k).length = T.length
 | 0 => rfl
 | k + 1 => by rw [zRow, putT_len, zRow_len T i k]
theorem zRow_row (T : List (List Int)) (i a : Nat) : ∀ k, ((zRow T i k).getD a []).length = (T.getD a []).length
 | 0 => rfl
 | k + 1 => by rw [zRow, putT_row, zRow_row T i a k]
theorem zAll_len (T : List (List Int)) : ∀ k, (zAll T k).length = T.length
 | 0 => rfl
 | k + 1 => by rw [zAll, zRow_len, zAll_len T k]
def seP (n rows : Nat) : Bool := ((dsX n).all fun T => decide (spec_dpParts.f 300 T = some (pcV T)) && decide (spec_dpSpecial.f 300 T = some (scV T))) && decide (zAll (jtN n rows (mtA n).length) (jtN n rows (mtA n).length).length = zeroT rows (mtA n).length) && ((jtN n rows (mtA n).length).all fun r => decide (0 < r.length ∧ r.length ≤ 1000)) && decide (0 < (jtN n rows (mtA n).length).length ∧ (jtN n rows (mtA n).length).length ≤ 1000)
theorem seP_1 : seP 1 1 = true := by decide +kernel
set_option maxHeartbeats 8000000 in
theorem spec_SpreadOfParts.calls_1 (w : World) : Calls Try.prog 36 #[.int .i64 1] w (RetTT w (spN 1 1 (mtA 1).length) true) := by
 have hP := spP_1
 unfold spP at hP
 simp only [Bool.and_eq_true, decide_eq_true_eq] at hP
 obtain ⟨⟨_, hjt⟩, hl⟩ := hP
 have hE := seP_1
 unfold seP at hE
 simp only [Bool.and_eq_true, decide_eq_true_eq] at hE
 obtain ⟨⟨⟨hval, hz0⟩, hpos⟩, hrl0⟩ := hE
 have HS := Aside0.mk (fun W => spec_dpSmall.calls 1 true W (by decide +kernel))
 have HJ := Aside0.mk (fun W => spec_JointTable.calls_1 W)
 have HDA := Aside0.mk (fun W => show Calls Try.prog 85 #[.slice none 0 0, .int .i64 1] W _ from spec_dpAll.calls 1000 (fun _ => False) none 0 [] 1 (dsX 1) W (Kd.V_nil _ _ _ _ _) (ds_all (n := 1) (by omega) (by omega)).sp)
 have HST := Aside0.mk (jtOk_step pcV scV (dsX (1 : Nat)) _ hjt)
 have HV := Aside0.mk (fun T (hT : T ∈ dsX (1 : Nat)) => List.all_eq_true.1 hval T hT)
 have hlen : (dsX 1).length ≤ 2000 := (ds_all (n := 1) (by omega) (by omega)).len
 obtain ⟨L, hL⟩ : ∃ L, L = (mtA 1).length := ⟨_, rfl⟩
 have HLL := Aside0.mk hL
 rw [show ((mtA ((1 : Nat) : Int)).length) = L from hL.symm] at HST hz0 hpos hrl0
 rw [← hL] at HJ
 obtain ⟨J0, hJ0⟩ : ∃ J0, J0 = jtN 1 1 L := ⟨_, rfl⟩
 rw [← hJ0] at HJ hz0 hpos hrl0
 have HZ0 := Aside0.mk hz0
 have HPO := Aside0.mk hpos
 have hj1 := hrl0.1
 have hj2 := hrl0.2
 obtain ⟨X, hX⟩ : ∃ X, X = dsX 1 := ⟨_, rfl⟩
 have HX := Aside0.mk hX
 rw [show dsX ((1 : Nat) : Int) = X from hX.symm] at HST HV
 rw [← hX] at HDA hlen
 clear hl hval hjt hL hX hJ0 hz0 hpos hrl0
 go_enter Try.func36, Try.ntmps36
 go_wp2_with (first
  | (go_at_call 84; refine (HS.out _).mono ?_; rintro e w0 ⟨rfl, hd⟩; have HB := Aside0.mk hd.below; clear hd)
  | (go_at_call 31; refine (HJ.out _).mono ?_; rintro e wj ⟨v, rfl, hS, hb⟩; obtain ⟨g6, c6, rfl, _, hg2, _⟩ := Kd.R_form (Kd.S_R hS) hj1; obtain ⟨m6, hm6⟩ : ∃ m6, m6 = J0.length := ⟨_, rfl⟩; rw [← hm6] at hS ⊢; have HM6 := Aside0.mk hm6; have HSJ := Aside0.mk (Kd.S_mono (ok' := fun k => k < wj.heap.size) (Kd.S_lower (Kd.S_bound hS) HB.out.size) (fun k hk => hk.2.2.1)); have HBJ := Aside0.mk (below_step HB.out hb); clear hS hb hg2 hm6))
 go_loopg [21] m6 (fun gg s21 wr => ∃ i : Nat, i ≤ m6 ∧ m6 - i ≤ gg ∧ s21 = .int .i64 i ∧ Aside0 (Kd.S (Kd.slice 3 (Kd.int .i64)) 22 wr w.heap.size (fun k => k < wj.heap.size) (.slice (some ⟨g6, 0, none⟩) m6 c6) (zAll J0 i)) ∧ Aside0 (wj.heap.size ≤ wr.heap.size) ∧ Aside0 (Below w.heap.size w wr))
 case atStart => exact ⟨0, Nat.zero_le _, Nat.le_refl _, rfl, HSJ, ⟨Nat.le_refl _⟩, HBJ⟩
 case round =>
  clear HSJ HBJ HB
  obtain ⟨i, hi, hgi, rfl, HSZ, HWJ, HBZ⟩ := hrel
  by_cases hix : i < m6
  ·have hzi : (i : Int) < (m6 : Int) := by omega
   obtain ⟨tb, htb⟩ : ∃ tb, tb = zAll J0 i := ⟨_, rfl⟩
   have HTB := Aside0.mk htb
   have htl : i < tb.length := by rw [htb, zAll_len, ← HM6.out]; exact hix
   have hrp2 : 0 < (tb.getD i []).length ∧ (tb.getD i []).length ≤ 1000 := by
    have h1 : ∀ (T : List (List Int)) (k a : Nat), ((zAll T k).getD a []).length = (T.getD a []).length := by
     intro T k a
     induction k with
     | zero => rfl
     | succ k ih => rw [zAll, zRow_row, ih]
    rw [htb, h1]
    have h2 : i < J0.length := by rw [← HM6.out]; exact hix
    rw [List.getD_eq_getElem?_getD, List.getElem?_eq_getElem h2]
    exact of_decide_eq_true (List.all_eq_true.1 HPO.out _ (List.getElem_mem h2))
   have hrp := hrp2.1
   rw [← htb] at HSZ
   obtain ⟨gi, ci, hr1, hci, hgb, _, _, _⟩ := S_row HSZ.out i htl hrp
   have hgi2 : gi < wj.heap.size := row_ok HSZ.out i htl hrp hr1
   have hgne : g6 ≠ gi := row_ne HSZ.out i htl hrp hr1
   obtain ⟨rl, hrl⟩ : ∃ rl, rl = (tb.getD i []).length := ⟨_, rfl⟩
   rw [← hrl] at hr1 hci
   have hrlb : rl ≤ 1000 := by rw [hrl]; exact hrp2.2
   have hm6b : m6 ≤ 1000 := by rw [HM6.out]; exact hj2
   have HRL := Aside0.mk hrl
   have HR1 := Aside0.mk hr1
   have HGNE := Aside0.mk hgne
   have HGB := Aside0.mk hgb
   have HTL := Aside0.mk htl
   clear hrl hrp hrp2 hgne hgb htl htb hgi2
   go_wp2
   obtain ⟨wa, rfl⟩ : ∃ wa : World, wa = wr := ⟨_, rfl⟩
   go_loopg [27] rl (fun gk s27 wr => ∃ k : Nat, k ≤ rl ∧ rl - k ≤ gk ∧ s27 = .int .i64 k ∧ Aside0 (Kd.S (Kd.slice 3 (Kd.int .i64)) 22 wr w.heap.size (fun k => k < wj.heap.size) (.slice (some ⟨g6, 0, none⟩) m6 c6) (zRow tb i k)) ∧ Aside0 (wr.cell? ⟨g6, i, none⟩ = some (.slice (some ⟨gi, 0, none⟩) rl ci)) ∧ Aside0 (wj.heap.size ≤ wr.heap.size) ∧ Aside0 (Below w.heap.size w wr))
   case atStart => exact ⟨0, Nat.zero_le _, Nat.le_refl _, rfl, HSZ, HR1, HWJ, HBZ⟩
   case round =>
    clear HSZ HR1 HBZ HWJ hr1
    obtain ⟨k, hk, hgk, rfl, HS3, HR3, HW3, HB3⟩ := hrel
    by_cases hkl : k < rl
    ·have hzk : (k : Int) < (rl : Int) := by omega
     obtain ⟨gi', ci', hc1, hc2, hc3, hc4, hput⟩ := S_put HS3.out i k (by rw [zRow_len]; exact HTL.out) (by rw [zRow_row, ← HRL.out]; exact hkl)
     have e := Option.some.inj (HR3.out.symm.trans hc1)
     injection e with e1 e2 e3
     injection e1 with e1
     injection e1 with e1
     subst e1
     clear e2 e3
     have hp3 := hput wr (Below.refl _ _)
     have hfz := hp3.1
     have HP := Aside0.mk (hp3.2 0)
     have HRN := Aside0.mk (cell_farV (p := ⟨gi, k, none⟩) (u := .int .i64 0) HGNE.out HR3.out)
     have HBN := Aside0.mk (HB3.out.setCell (p := ⟨gi, k, none⟩) HGB.out (.int .i64 0))
     have HWN := Aside0.mk (show wj.heap.size ≤ (wr.setCell ⟨gi, k, none⟩ (.int .i64 0)).heap.size by simp [World.setCell]; exact HW3.out)
     clear hp3 hput hc1 hc2 hc3
     go_wp2
     go_roundg (rl - (k + 1))
     case measure => omega
     case rel => exact ⟨k + 1, by omega, by omega, by go_num, HP, HRN, HWN, HBN⟩
    ·have hzk : ¬ (k : Int) < (rl : Int) := by omega
     have hke : k = rl := by omega
     subst hke
     go_wp2
     go_roundg (m6 - (i + 1))
     case measure => omega
     case rel => exact ⟨i + 1, by omega, by omega, by go_num, ⟨by rw [zAll, ← HTB.out, ← HRL.out]; exact HS3.out⟩, HW3, HB3⟩
  ·have hzi : ¬ (i : Int) < (m6 : Int) := by omega
   have hie : i = m6 := by omega
   subst hie
   have HSW := Aside0.mk (show Kd.S (Kd.slice 3 (Kd.int .i64)) 22 wr w.heap.size (fun k => k < wr.heap.size) (.slice (some ⟨g6, 0, none⟩) i c6) (zeroT 1 L) from by rw [← HZ0.out, ← HM6.out]; exact Kd.S_mono HSZ.out (fun k hk => Nat.lt_of_lt_of_le hk HWJ.out))
   obtain ⟨m6, hm6⟩ : ∃ m6, m6 = i := ⟨_, rfl⟩
   subst hm6
   go_wp2_with (go_at_call 85; refine (HDA.out _).mono ?_; rintro e w1d ⟨v, rfl, hN, hb⟩; obtain ⟨AX, cX, rfl⟩ := Kd.N_slice hN; have HFX := Aside0.mk (Kd.F_mono (ok' := fun k => wr.heap.size ≤ k) (Kd.N_F hN) (fun k hk => hk.elim (fun h => h.elim) id)); have HB1 := Aside0.mk (below_step HBZ.out hb); have HS1 := Aside0.mk (Kd.S_below HSW.out hb); clear hN hb)
   obtain ⟨wo, rfl⟩ : ∃ wo : World, wo = wr := ⟨_, rfl⟩
   clear HSZ HSW HBZ
   go_loopg [38] X.length (fun gg s38 wr => ∃ i : Nat, i ≤ X.length ∧ X.length - i ≤ gg ∧ s38 = .int .i64 i ∧ Aside0 (Kd.S (Kd.slice 3 (Kd.int .i64)) 22 wr w.heap.size (fun k => k < wo.heap.size) (.slice (some ⟨g6, 0, none⟩) m6 c6) (jtOf pcV scV X (zeroT 1 L) i)) ∧ Aside0 (Touch w1d wr (fun k => k < wo.heap.size)) ∧ Aside0 (Below w.heap.size w wr))
   case atStart => exact ⟨0, Nat.zero_le _, Nat.le_refl _, rfl, ⟨by have h_ := HS1.out; cases hq : X <;> exact h_⟩, ⟨Touch.refl _ _⟩, HB1⟩
   case round =>
    clear HS1 HB1
    obtain ⟨i, hi, hgi, rfl, HS2, HT2, HB2⟩ := hrel
    by_cases hix : i < X.length
    ·skip
     have hzi : (i : Int) < (X.length : Int) := by omega
     obtain ⟨T, hT⟩ : ∃ T, T = X[i] := ⟨_, rfl⟩
     have hTg : X[i]? = some T := by rw [hT, List.getElem?_eq_getElem hix]
     obtain ⟨p, q, hpv, hqv, hpl, hql, htab⟩ := HST.out i T hTg
     have hF2 := HT2.out.F HFX.out (fun k hk h => by omega)
     obtain ⟨ad, cs, hA, hcl1, hFK, hcell, _⟩ := Kd.F_get hF2 ([] : List (List Int)) (i : Int) (by omega) (by omega)
     obtain ⟨At, ct, rfl, hct, hFx⟩ := Kd.FK_slice_open hFK
     have hx := hcell 0 _ rfl
     rw [Int.toNat_natCast, show (Kd.slice 22 (Kd.slice 3 (Kd.int .i64))).sz = 1 from rfl, Nat.mul_one, Nat.add_zero] at hx
     have hge : X.getD i [] = T := by rw [hT, List.getD_eq_getElem?_getD, List.getElem?_eq_getElem hix]; rfl
     rw [Int.toNat_natCast, hge] at hct hFx
     rw [hge] at hx
     have hvv := HV.out T (List.mem_of_getElem? hTg)
     simp only [Bool.and_eq_true, decide_eq_true_eq] at hvv
     have HIN := Aside0.mk (fun W' (hb : Below wr.heap.size wr W') => hpv ▸ spec_dpParts.calls 300 At ct T (pcV T) W' (Kd.F_now (Kd.F_below hFx hb)) hct hvv.1)
     have HMI := Aside0.mk (fun W' (hb : Below wr.heap.size wr W') => hqv ▸ spec_dpSpecial.calls 300 At ct T (scV T) W' (Kd.F_now (Kd.F_below hFx hb)) hct hvv.2)
     clear hvv
     obtain ⟨tb, htb⟩ : ∃ tb, tb = jtOf pcV scV X (zeroT 1 L) i := ⟨_, rfl⟩
     obtain ⟨tn, htn⟩ : ∃ tn, tn = jtOf pcV scV X (zeroT 1 L) (i + 1) := ⟨_, rfl⟩
     rw [← htb, ← htn] at htab
     rw [← htb] at HS2 hpl hql
     have HTN := Aside0.mk htn
     have hnl : m6 = tb.length := (Kd.S_reads' HS2.out).1
     obtain ⟨gi, ci, hr1, hci, hgb, hr2, hput⟩ := S_put HS2.out p q hpl hql
     have hgi2 : gi < wo.heap.size := row_ok HS2.out p hpl (by omega) hr1
     obtain ⟨row, hrow⟩ : ∃ row, row = tb.getD p [] := ⟨_, rfl⟩
     rw [← hrow] at hr1 hr2 hci hql
     have hput2 : ∀ W', Below wr.heap.size wr W' → W'.frozen? ⟨gi, q, none⟩ = false ∧ Kd.S (Kd.slice 3 (Kd.int .i64)) 22 (W'.setCell ⟨gi, q, none⟩ (.int .i64 (IntKind.i64.wrap (rd row q + 1)))) w.heap.size (fun k => k < wo.heap.size) (.slice (some ⟨g6, 0, none⟩) m6 c6) tn := fun W' hb => ⟨(hput W' hb).1, by rw [htab, cntT, ← hrow, i64_w]; exact (hput W' hb).2 _⟩
     have HPUT := Aside0.mk hput2
     have HBC := Aside0.mk (Below.refl wr.heap.size wr)
     have hz1 : (p : Int) < (m6 : Int) := by omega
     have hz2 : (q : Int) < (row.length : Int) := by omega
     have hfr := (hput2 wr HBC.out).1
     have HGI := Aside0.mk hgi2
     have HGB := Aside0.mk hgb
     subst hA
     clear hput hput2 hF2 hFK hcell hFx hct hT hge hTg hpl hql hpv hqv htab hnl htb htn hrow hgi2 hgb hci HS2 hcl1
     go_wp2
     go_region_law (first
      | (go_simp; go_at_call 86; (refine (HIN.out _ ?hbY).mono ?_); (case hbY => exact (by repeat (first | exact HBC.out | refine below_drew ?_))); rintro e w3 ⟨rfl, hd⟩; have hb := hd.below; clear hd; have n_ := fun h => Aside0.mk (Below.trans (B := wr.heap.size) h (hb.mono (Below.size h))); have m_ := n_ (by repeat (first | exact HBC.out | refine below_drew ?_)); clear n_ HBC; have HBC := m_; clear m_; have hq2 := pw_cell_below HBC.out hr1; have hq3 := pw_cell_below HBC.out hr2; have hq4 := (HPUT.out _ HBC.out).1; clear hb)
      | (go_simp; go_at_call 87; (refine (HMI.out _ ?hbZ).mono ?_); (case hbZ => exact (by repeat (first | exact HBC.out | refine below_drew ?_))); rintro e w4 ⟨rfl, hd⟩; have hb := hd.below; clear hd; have n_ := fun h => Aside0.mk (Below.trans (B := wr.heap.size) h (hb.mono (Below.size h))); have m_ := n_ (by repeat (first | exact HBC.out | refine below_drew ?_)); clear n_ HBC; have HBC := m_; clear m_; (try clear hq2 hq3 hq4); have hq2 := pw_cell_below HBC.out hr1; have hq3 := pw_cell_below HBC.out hr2; have hq4 := (HPUT.out _ HBC.out).1; clear hb))
     all_goals
      have HTS := Aside0.mk ((HT2.out.then_below HBC.out).set ⟨gi, q, none⟩ (.inl HGI.out) (.int .i64 (wrap64 (rd row q + 1))))
      have HBS := Aside0.mk ((HB2.out.trans (HBC.out.mono HB2.out.size)).setCell (p := ⟨gi, q, none⟩) HGB.out (.int .i64 (wrap64 (rd row q + 1))))
      have hps_ := (HPUT.out _ HBC.out).2
      rw [i64_w] at hps_
      have HPS := Aside0.mk hps_
      clear hps_
      go_wp2
      go_roundg (X.length - (i + 1))
      case measure => omega
      case rel => exact ⟨i + 1, by omega, by omega, by go_num, ⟨by rw [← HTN.out]; exact HPS.out⟩, HTS, HBS⟩
    ·have hzi : ¬ (i : Int) < (X.length : Int) := by omega
     have hie : i = X.length := by omega
     subst hie
     go_wp2
     go_ret2
     refine ⟨_, rfl, ?_, HB2.out⟩
     have h5 := Kd.S_mono HS2.out (ok' := fun _ => True) (fun _ _ => trivial)
     unfold spN
     rw [← HLL.out, ← HX.out]
     exact h5
theorem seP_2 : seP 2 2 = true := by decide +kernel
set_option maxHeartbeats 8000000 in
theorem spec_SpreadOfParts.calls_2 (w : World) : Calls Try.prog 36 #[.int .i64 2] w (RetTT w (spN 2 2 (mtA 2).length) true) := by
 have hP := spP_2
 unfold spP at hP
 simp only [Bool.and_eq_true, decide_eq_true_eq] at hP
 obtain ⟨⟨_, hjt⟩, hl⟩ := hP
 have hE := seP_2
 unfold seP at hE
 simp only [Bool.and_eq_true, decide_eq_true_eq] at hE
 obtain ⟨⟨⟨hval, hz0⟩, hpos⟩, hrl0⟩ := hE
 have HS := Aside0.mk (fun W => spec_dpSmall.calls 2 true W (by decide +kernel))
 have HJ := Aside0.mk (fun W => spec_JointTable.calls_2 W)
 have HDA := Aside0.mk (fun W => show Calls Try.prog 85 #[.slice none 0 0, .int .i64 2] W _ from spec_dpAll.calls 1000 (fun _ => False) none 0 [] 2 (dsX 2) W (Kd.V_nil _ _ _ _ _) (ds_all (n := 2) (by omega) (by omega)).sp)
 have HST := Aside0.mk (jtOk_step pcV scV (dsX (2 : Nat)) _ hjt)
 have HV := Aside0.mk (fun T (hT : T ∈ dsX (2 : Nat)) => List.all_eq_true.1 hval T hT)
 have hlen : (dsX 2).length ≤ 2000 := (ds_all (n := 2) (by omega) (by omega)).len
 obtain ⟨L, hL⟩ : ∃ L, L = (mtA 2).length := ⟨_, rfl⟩
 have HLL := Aside0.mk hL
 rw [show ((mtA ((2 : Nat) : Int)).length) = L from hL.symm] at HST hz0 hpos hrl0
 rw [← hL] at HJ
 obtain ⟨J0, hJ0⟩ : ∃ J0, J0 = jtN 2 2 L := ⟨_, rfl⟩
 rw [← hJ0] at HJ hz0 hpos hrl0
 have HZ0 := Aside0.mk hz0
 have HPO := Aside0.mk hpos
 have hj1 := hrl0.1
 have hj2 := hrl0.2
 obtain ⟨X, hX⟩ : ∃ X, X = dsX 2 := ⟨_, rfl⟩
 have HX := Aside0.mk hX
 rw [show dsX ((2 : Nat) : Int) = X from hX.symm] at HST HV
 rw [← hX] at HDA hlen
 clear hl hval hjt hL hX hJ0 hz0 hpos hrl0
 go_enter Try.func36, Try.ntmps36
 go_wp2_with (first
  | (go_at_call 84; refine (HS.out _).mono ?_; rintro e w0 ⟨rfl, hd⟩; have HB := Aside0.mk hd.below; clear hd)
  | (go_at_call 31; refine (HJ.out _).mono ?_; rintro e wj ⟨v, rfl, hS, hb⟩; obtain ⟨g6, c6, rfl, _, hg2, _⟩ := Kd.R_form (Kd.S_R hS) hj1; obtain ⟨m6, hm6⟩ : ∃ m6, m6 = J0.length := ⟨_, rfl⟩; rw [← hm6] at hS ⊢; have HM6 := Aside0.mk hm6; have HSJ := Aside0.mk (Kd.S_mono (ok' := fun k => k < wj.heap.size) (Kd.S_lower (Kd.S_bound hS) HB.out.size) (fun k hk => hk.2.2.1)); have HBJ := Aside0.mk (below_step HB.out hb); clear hS hb hg2 hm6))
 go_loopg [21] m6 (fun gg s21 wr => ∃ i : Nat, i ≤ m6 ∧ m6 - i ≤ gg ∧ s21 = .int .i64 i ∧ Aside0 (Kd.S (Kd.slice 3 (Kd.int .i64)) 22 wr w.heap.size (fun k => k < wj.heap.size) (.slice (some ⟨g6, 0, none⟩) m6 c6) (zAll J0 i)) ∧ Aside0 (wj.heap.size ≤ wr.heap.size) ∧ Aside0 (Below w.heap.size w wr))
 case atStart => exact ⟨0, Nat.zero_le _, Nat.le_refl _, rfl, HSJ, ⟨Nat.le_refl _⟩, HBJ⟩
 case round =>
  clear HSJ HBJ HB
  obtain ⟨i, hi, hgi, rfl, HSZ, HWJ, HBZ⟩ := hrel
  by_cases hix : i < m6
  ·have hzi : (i : Int) < (m6 : Int) := by omega
   obtain ⟨tb, htb⟩ : ∃ tb, tb = zAll J0 i := ⟨_, rfl⟩
   have HTB := Aside0.mk htb
   have htl : i < tb.length := by rw [htb, zAll_len, ← HM6.out]; exact hix
   have hrp2 : 0 < (tb.getD i []).length ∧ (tb.getD i []).length ≤ 1000 := by
    have h1 : ∀ (T : List (List Int)) (k a : Nat), ((zAll T k).getD a []).length = (T.getD a []).length := by
     intro T k a
     induction k with
     | zero => rfl
     | succ k ih => rw [zAll, zRow_row, ih]
    rw [htb, h1]
    have h2 : i < J0.length := by rw [← HM6.out]; exact hix
    rw [List.getD_eq_getElem?_getD, List.getElem?_eq_getElem h2]
    exact of_decide_eq_true (List.all_eq_true.1 HPO.out _ (List.getElem_mem h2))
   have hrp := hrp2.1
   rw [← htb] at HSZ
   obtain ⟨gi, ci, hr1, hci, hgb, _, _, _⟩ := S_row HSZ.out i htl hrp
   have hgi2 : gi < wj.heap.size := row_ok HSZ.out i htl hrp hr1
   have hgne : g6 ≠ gi := row_ne HSZ.out i htl hrp hr1
   obtain ⟨rl, hrl⟩ : ∃ rl, rl = (tb.getD i []).length := ⟨_, rfl⟩
   rw [← hrl] at hr1 hci
   have hrlb : rl ≤ 1000 := by rw [hrl]; exact hrp2.2
   have hm6b : m6 ≤ 1000 := by rw [HM6.out]; exact hj2
   have HRL := Aside0.mk hrl
   have HR1 := Aside0.mk hr1
   have HGNE := Aside0.mk hgne
   have HGB := Aside0.mk hgb
   have HTL := Aside0.mk htl
   clear hrl hrp hrp2 hgne hgb htl htb hgi2
   go_wp2
   obtain ⟨wa, rfl⟩ : ∃ wa : World, wa = wr := ⟨_, rfl⟩
   go_loopg [27] rl (fun gk s27 wr => ∃ k : Nat, k ≤ rl ∧ rl - k ≤ gk ∧ s27 = .int .i64 k ∧ Aside0 (Kd.S (Kd.slice 3 (Kd.int .i64)) 22 wr w.heap.size (fun k => k < wj.heap.size) (.slice (some ⟨g6, 0, none⟩) m6 c6) (zRow tb i k)) ∧ Aside0 (wr.cell? ⟨g6, i, none⟩ = some (.slice (some ⟨gi, 0, none⟩) rl ci)) ∧ Aside0 (wj.heap.size ≤ wr.heap.size) ∧ Aside0 (Below w.heap.size w wr))
   case atStart => exact ⟨0, Nat.zero_le _, Nat.le_refl _, rfl, HSZ, HR1, HWJ, HBZ⟩
   case round =>
    clear HSZ HR1 HBZ HWJ hr1
    obtain ⟨k, hk, hgk, rfl, HS3, HR3, HW3, HB3⟩ := hrel
    by_cases hkl : k < rl
    ·have hzk : (k : Int) < (rl : Int) := by omega
     obtain ⟨gi', ci', hc1, hc2, hc3, hc4, hput⟩ := S_put HS3.out i k (by rw [zRow_len]; exact HTL.out) (by rw [zRow_row, ← HRL.out]; exact hkl)
     have e := Option.some.inj (HR3.out.symm.trans hc1)
     injection e with e1 e2 e3
     injection e1 with e1
     injection e1 with e1
     subst e1
     clear e2 e3
     have hp3 := hput wr (Below.refl _ _)
     have hfz := hp3.1
     have HP := Aside0.mk (hp3.2 0)
     have HRN := Aside0.mk (cell_farV (p := ⟨gi, k, none⟩) (u := .int .i64 0) HGNE.out HR3.out)
     have HBN := Aside0.mk (HB3.out.setCell (p := ⟨gi, k, none⟩) HGB.out (.int .i64 0))
     have HWN := Aside0.mk (show wj.heap.size ≤ (wr.setCell ⟨gi, k, none⟩ (.int .i64 0)).heap.size by simp [World.setCell]; exact HW3.out)
     clear hp3 hput hc1 hc2 hc3
     go_wp2
     go_roundg (rl - (k + 1))
     case measure => omega
     case rel => exact ⟨k + 1, by omega, by omega, by go_num, HP, HRN, HWN, HBN⟩
    ·have hzk : ¬ (k : Int) < (rl : Int) := by omega
     have hke : k = rl := by omega
     subst hke
     go_wp2
     go_roundg (m6 - (i + 1))
     case measure => omega
     case rel => exact ⟨i + 1, by omega, by omega, by go_num, ⟨by rw [zAll, ← HTB.out, ← HRL.out]; exact HS3.out⟩, HW3, HB3⟩
  ·have hzi : ¬ (i : Int) < (m6 : Int) := by omega
   have hie : i = m6 := by omega
   subst hie
   have HSW := Aside0.mk (show Kd.S (Kd.slice 3 (Kd.int .i64)) 22 wr w.heap.size (fun k => k < wr.heap.size) (.slice (some ⟨g6, 0, none⟩) i c6) (zeroT 2 L) from by rw [← HZ0.out, ← HM6.out]; exact Kd.S_mono HSZ.out (fun k hk => Nat.lt_of_lt_of_le hk HWJ.out))
   obtain ⟨m6, hm6⟩ : ∃ m6, m6 = i := ⟨_, rfl⟩
   subst hm6
   go_wp2_with (go_at_call 85; refine (HDA.out _).mono ?_; rintro e w1d ⟨v, rfl, hN, hb⟩; obtain ⟨AX, cX, rfl⟩ := Kd.N_slice hN; have HFX := Aside0.mk (Kd.F_mono (ok' := fun k => wr.heap.size ≤ k) (Kd.N_F hN) (fun k hk => hk.elim (fun h => h.elim) id)); have HB1 := Aside0.mk (below_step HBZ.out hb); have HS1 := Aside0.mk (Kd.S_below HSW.out hb); clear hN hb)
   obtain ⟨wo, rfl⟩ : ∃ wo : World, wo = wr := ⟨_, rfl⟩
   clear HSZ HSW HBZ
   go_loopg [38] X.length (fun gg s38 wr => ∃ i : Nat, i ≤ X.length ∧ X.length - i ≤ gg ∧ s38 = .int .i64 i ∧ Aside0 (Kd.S (Kd.slice 3 (Kd.int .i64)) 22 wr w.heap.size (fun k => k < wo.heap.size) (.slice (some ⟨g6, 0, none⟩) m6 c6) (jtOf pcV scV X (zeroT 2 L) i)) ∧ Aside0 (Touch w1d wr (fun k => k < wo.heap.size)) ∧ Aside0 (Below w.heap.size w wr))
   case atStart => exact ⟨0, Nat.zero_le _, Nat.le_refl _, rfl, ⟨by have h_ := HS1.out; cases hq : X <;> exact h_⟩, ⟨Touch.refl _ _⟩, HB1⟩
   case round =>
    clear HS1 HB1
    obtain ⟨i, hi, hgi, rfl, HS2, HT2, HB2⟩ := hrel
    by_cases hix : i < X.length
    ·skip
     have hzi : (i : Int) < (X.length : Int) := by omega
     obtain ⟨T, hT⟩ : ∃ T, T = X[i] := ⟨_, rfl⟩
     have hTg : X[i]? = some T := by rw [hT, List.getElem?_eq_getElem hix]
     obtain ⟨p, q, hpv, hqv, hpl, hql, htab⟩ := HST.out i T hTg
     have hF2 := HT2.out.F HFX.out (fun k hk h => by omega)
     obtain ⟨ad, cs, hA, hcl1, hFK, hcell, _⟩ := Kd.F_get hF2 ([] : List (List Int)) (i : Int) (by omega) (by omega)
     obtain ⟨At, ct, rfl, hct, hFx⟩ := Kd.FK_slice_open hFK
     have hx := hcell 0 _ rfl
     rw [Int.toNat_natCast, show (Kd.slice 22 (Kd.slice 3 (Kd.int .i64))).sz = 1 from rfl, Nat.mul_one, Nat.add_zero] at hx
     have hge : X.getD i [] = T := by rw [hT, List.getD_eq_getElem?_getD, List.getElem?_eq_getElem hix]; rfl
     rw [Int.toNat_natCast, hge] at hct hFx
     rw [hge] at hx
     have hvv := HV.out T (List.mem_of_getElem? hTg)
     simp only [Bool.and_eq_true, decide_eq_true_eq] at hvv
     have HIN := Aside0.mk (fun W' (hb : Below wr.heap.size wr W') => hpv ▸ spec_dpParts.calls 300 At ct T (pcV T) W' (Kd.F_now (Kd.F_below hFx hb)) hct hvv.1)
     have HMI := Aside0.mk (fun W' (hb : Below wr.heap.size wr W') => hqv ▸ spec_dpSpecial.calls 300 At ct T (scV T) W' (Kd.F_now (Kd.F_below hFx hb)) hct hvv.2)
     clear hvv
     obtain ⟨tb, htb⟩ : ∃ tb, tb = jtOf pcV scV X (zeroT 2 L) i := ⟨_, rfl⟩
     obtain ⟨tn, htn⟩ : ∃ tn, tn = jtOf pcV scV X (zeroT 2 L) (i + 1) := ⟨_, rfl⟩
     rw [← htb, ← htn] at htab
     rw [← htb] at HS2 hpl hql
     have HTN := Aside0.mk htn
     have hnl : m6 = tb.length := (Kd.S_reads' HS2.out).1
     obtain ⟨gi, ci, hr1, hci, hgb, hr2, hput⟩ := S_put HS2.out p q hpl hql
     have hgi2 : gi < wo.heap.size := row_ok HS2.out p hpl (by omega) hr1
     obtain ⟨row, hrow⟩ : ∃ row, row = tb.getD p [] := ⟨_, rfl⟩
     rw [← hrow] at hr1 hr2 hci hql
     have hput2 : ∀ W', Below wr.heap.size wr W' → W'.frozen? ⟨gi, q, none⟩ = false ∧ Kd.S (Kd.slice 3 (Kd.int .i64)) 22 (W'.setCell ⟨gi, q, none⟩ (.int .i64 (IntKind.i64.wrap (rd row q + 1)))) w.heap.size (fun k => k < wo.heap.size) (.slice (some ⟨g6, 0, none⟩) m6 c6) tn := fun W' hb => ⟨(hput W' hb).1, by rw [htab, cntT, ← hrow, i64_w]; exact (hput W' hb).2 _⟩
     have HPUT := Aside0.mk hput2
     have HBC := Aside0.mk (Below.refl wr.heap.size wr)
     have hz1 : (p : Int) < (m6 : Int) := by omega
     have hz2 : (q : Int) < (row.length : Int) := by omega
     have hfr := (hput2 wr HBC.out).1
     have HGI := Aside0.mk hgi2
     have HGB := Aside0.mk hgb
     subst hA
     clear hput hput2 hF2 hFK hcell hFx hct hT hge hTg hpl hql hpv hqv htab hnl htb htn hrow hgi2 hgb hci HS2 hcl1
     go_wp2
     go_region_law (first
      | (go_simp; go_at_call 86; (refine (HIN.out _ ?hbY).mono ?_); (case hbY => exact (by repeat (first | exact HBC.out | refine below_drew ?_))); rintro e w3 ⟨rfl, hd⟩; have hb := hd.below; clear hd; have n_ := fun h => Aside0.mk (Below.trans (B := wr.heap.size) h (hb.mono (Below.size h))); have m_ := n_ (by repeat (first | exact HBC.out | refine below_drew ?_)); clear n_ HBC; have HBC := m_; clear m_; have hq2 := pw_cell_below HBC.out hr1; have hq3 := pw_cell_below HBC.out hr2; have hq4 := (HPUT.out _ HBC.out).1; clear hb)
      | (go_simp; go_at_call 87; (refine (HMI.out _ ?hbZ).mono ?_); (case hbZ => exact (by repeat (first | exact HBC.out | refine below_drew ?_))); rintro e w4 ⟨rfl, hd⟩; have hb := hd.below; clear hd; have n_ := fun h => Aside0.mk (Below.trans (B := wr.heap.size) h (hb.mono (Below.size h))); have m_ := n_ (by repeat (first | exact HBC.out | refine below_drew ?_)); clear n_ HBC; have HBC := m_; clear m_; (try clear hq2 hq3 hq4); have hq2 := pw_cell_below HBC.out hr1; have hq3 := pw_cell_below HBC.out hr2; have hq4 := (HPUT.out _ HBC.out).1; clear hb))
     all_goals
      have HTS := Aside0.mk ((HT2.out.then_below HBC.out).set ⟨gi, q, none⟩ (.inl HGI.out) (.int .i64 (wrap64 (rd row q + 1))))
      have HBS := Aside0.mk ((HB2.out.trans (HBC.out.mono HB2.out.size)).setCell (p := ⟨gi, q, none⟩) HGB.out (.int .i64 (wrap64 (rd row q + 1))))
      have hps_ := (HPUT.out _ HBC.out).2
      rw [i64_w] at hps_
      have HPS := Aside0.mk hps_
      clear hps_
      go_wp2
      go_roundg (X.length - (i + 1))
      case measure => omega
      case rel => exact ⟨i + 1, by omega, by omega, by go_num, ⟨by rw [← HTN.out]; exact HPS.out⟩, HTS, HBS⟩
    ·have hzi : ¬ (i : Int) < (X.length : Int) := by omega
     have hie : i = X.length := by omega
     subst hie
     go_wp2
     go_ret2
     refine ⟨_, rfl, ?_, HB2.out⟩
     have h5 := Kd.S_mono HS2.out (ok' := fun _ => True) (fun _ _ => trivial)
     unfold spN
     rw [← HLL.out, ← HX.out]
     exact h5
theorem seP_3 : seP 3 4 = true := by decide +kernel
set_option maxHeartbeats 8000000 in
theorem spec_SpreadOfParts.calls_3 (w : World) : Calls Try.prog 36 #[.int .i64 3] w (RetTT w (spN 3 4 (mtA 3).length) true) := by
 have hP := spP_3
 unfold spP at hP
 simp only [Bool.and_eq_true, decide_eq_true_eq] at hP
 obtain ⟨⟨_, hjt⟩, hl⟩ := hP
 have hE := seP_3
 unfold seP at hE
 simp only [Bool.and_eq_true, decide_eq_true_eq] at hE
 obtain ⟨⟨⟨hval, hz0⟩, hpos⟩, hrl0⟩ := hE
 have HS := Aside0.mk (fun W => spec_dpSmall.calls 3 true W (by decide +kernel))
 have HJ := Aside0.mk (fun W => spec_JointTable.calls_3 W)
 have HDA := Aside0.mk (fun W => show Calls Try.prog 85 #[.slice none 0 0, .int .i64 3] W _ from spec_dpAll.calls 1000 (fun _ => False) none 0 [] 3 (dsX 3) W (Kd.V_nil _ _ _ _ _) (ds_all (n := 3) (by omega) (by omega)).sp)
 have HST := Aside0.mk (jtOk_step pcV scV (dsX (3 : Nat)) _ hjt)
 have HV := Aside0.mk (fun T (hT : T ∈ dsX (3 : Nat)) => List.all_eq_true.1 hval T hT)
 have hlen : (dsX 3).length ≤ 2000 := (ds_all (n := 3) (by omega) (by omega)).len
 obtain ⟨L, hL⟩ : ∃ L, L = (mtA 3).length := ⟨_, rfl⟩
 have HLL := Aside0.mk hL
 rw [show ((mtA ((3 : Nat) : Int)).length) = L from hL.symm] at HST hz0 hpos hrl0
 rw [← hL] at HJ
 obtain ⟨J0, hJ0⟩ : ∃ J0, J0 = jtN 3 4 L := ⟨_, rfl⟩
 rw [← hJ0] at HJ hz0 hpos hrl0
 have HZ0 := Aside0.mk hz0
 have HPO := Aside0.mk hpos
 have hj1 := hrl0.1
 have hj2 := hrl0.2
 obtain ⟨X, hX⟩ : ∃ X, X = dsX 3 := ⟨_, rfl⟩
 have HX := Aside0.mk hX
 rw [show dsX ((3 : Nat) : Int) = X from hX.symm] at HST HV
 rw [← hX] at HDA hlen
 clear hl hval hjt hL hX hJ0 hz0 hpos hrl0
 go_enter Try.func36, Try.ntmps36
 go_wp2_with (first
  | (go_at_call 84; refine (HS.out _).mono ?_; rintro e w0 ⟨rfl, hd⟩; have HB := Aside0.mk hd.below; clear hd)
  | (go_at_call 31; refine (HJ.out _).mono ?_; rintro e wj ⟨v, rfl, hS, hb⟩; obtain ⟨g6, c6, rfl, _, hg2, _⟩ := Kd.R_form (Kd.S_R hS) hj1; obtain ⟨m6, hm6⟩ : ∃ m6, m6 = J0.length := ⟨_, rfl⟩; rw [← hm6] at hS ⊢; have HM6 := Aside0.mk hm6; have HSJ := Aside0.mk (Kd.S_mono (ok' := fun k => k < wj.heap.size) (Kd.S_lower (Kd.S_bound hS) HB.out.size) (fun k hk => hk.2.2.1)); have HBJ := Aside0.mk (below_step HB.out hb); clear hS hb hg2 hm6))
 go_loopg [21] m6 (fun gg s21 wr => ∃ i : Nat, i ≤ m6 ∧ m6 - i ≤ gg ∧ s21 = .int .i64 i ∧ Aside0 (Kd.S (Kd.slice 3 (Kd.int .i64)) 22 wr w.heap.size (fun k => k < wj.heap.size) (.slice (some ⟨g6, 0, none⟩) m6 c6) (zAll J0 i)) ∧ Aside0 (wj.heap.size ≤ wr.heap.size) ∧ Aside0 (Below w.heap.size w wr))
 case atStart => exact ⟨0, Nat.zero_le _, Nat.le_refl _, rfl, HSJ, ⟨Nat.le_refl _⟩, HBJ⟩
 case round =>
  clear HSJ HBJ HB
  obtain ⟨i, hi, hgi, rfl, HSZ, HWJ, HBZ⟩ := hrel
  by_cases hix : i < m6
  ·have hzi : (i : Int) < (m6 : Int) := by omega
   obtain ⟨tb, htb⟩ : ∃ tb, tb = zAll J0 i := ⟨_, rfl⟩
   have HTB := Aside0.mk htb
   have htl : i < tb.length := by rw [htb, zAll_len, ← HM6.out]; exact hix
   have hrp2 : 0 < (tb.getD i []).length ∧ (tb.getD i []).length ≤ 1000 := by
    have h1 : ∀ (T : List (List Int)) (k a : Nat), ((zAll T k).getD a []).length = (T.getD a []).length := by
     intro T k a
     induction k with
     | zero => rfl
     | succ k ih => rw [zAll, zRow_row, ih]
    rw [htb, h1]
    have h2 : i < J0.length := by rw [← HM6.out]; exact hix
    rw [List.getD_eq_getElem?_getD, List.getElem?_eq_getElem h2]
    exact of_decide_eq_true (List.all_eq_true.1 HPO.out _ (List.getElem_mem h2))
   have hrp := hrp2.1
   rw [← htb] at HSZ
   obtain ⟨gi, ci, hr1, hci, hgb, _, _, _⟩ := S_row HSZ.out i htl hrp
   have hgi2 : gi < wj.heap.size := row_ok HSZ.out i htl hrp hr1
   have hgne : g6 ≠ gi := row_ne HSZ.out i htl hrp hr1
   obtain ⟨rl, hrl⟩ : ∃ rl, rl = (tb.getD i []).length := ⟨_, rfl⟩
   rw [← hrl] at hr1 hci
   have hrlb : rl ≤ 1000 := by rw [hrl]; exact hrp2.2
   have hm6b : m6 ≤ 1000 := by rw [HM6.out]; exact hj2
   have HRL := Aside0.mk hrl
   have HR1 := Aside0.mk hr1
   have HGNE := Aside0.mk hgne
   have HGB := Aside0.mk hgb
   have HTL := Aside0.mk htl
   clear hrl hrp hrp2 hgne hgb htl htb hgi2
   go_wp2
   obtain ⟨wa, rfl⟩ : ∃ wa : World, wa = wr := ⟨_, rfl⟩
   go_loopg [27] rl (fun gk s27 wr => ∃ k : Nat, k ≤ rl ∧ rl - k ≤ gk ∧ s27 = .int .i64 k ∧ Aside0 (Kd.S (Kd.slice 3 (Kd.int .i64)) 22 wr w.heap.size (fun k => k < wj.heap.size) (.slice (some ⟨g6, 0, none⟩) m6 c6) (zRow tb i k)) ∧ Aside0 (wr.cell? ⟨g6, i, none⟩ = some (.slice (some ⟨gi, 0, none⟩) rl ci)) ∧ Aside0 (wj.heap.size ≤ wr.heap.size) ∧ Aside0 (Below w.heap.size w wr))
   case atStart => exact ⟨0, Nat.zero_le _, Nat.le_refl _, rfl, HSZ, HR1, HWJ, HBZ⟩
   case round =>
    clear HSZ HR1 HBZ HWJ hr1
    obtain ⟨k, hk, hgk, rfl, HS3, HR3, HW3, HB3⟩ := hrel
    by_cases hkl : k < rl
    ·have hzk : (k : Int) < (rl : Int) := by omega
     obtain ⟨gi', ci', hc1, hc2, hc3, hc4, hput⟩ := S_put HS3.out i k (by rw [zRow_len]; exact HTL.out) (by rw [zRow_row, ← HRL.out]; exact hkl)
     have e := Option.some.inj (HR3.out.symm.trans hc1)
     injection e with e1 e2 e3
     injection e1 with e1
     injection e1 with e1
     subst e1
     clear e2 e3
     have hp3 := hput wr (Below.refl _ _)
     have hfz := hp3.1
     have HP := Aside0.mk (hp3.2 0)
     have HRN := Aside0.mk (cell_farV (p := ⟨gi, k, none⟩) (u := .int .i64 0) HGNE.out HR3.out)
     have HBN := Aside0.mk (HB3.out.setCell (p := ⟨gi, k, none⟩) HGB.out (.int .i64 0))
     have HWN := Aside0.mk (show wj.heap.size ≤ (wr.setCell ⟨gi, k, none⟩ (.int .i64 0)).heap.size by simp [World.setCell]; exact HW3.out)
     clear hp3 hput hc1 hc2 hc3
     go_wp2
     go_roundg (rl - (k + 1))
     case measure => omega
     case rel => exact ⟨k + 1, by omega, by omega, by go_num, HP, HRN, HWN, HBN⟩
    ·have hzk : ¬ (k : Int) < (rl : Int) := by omega
     have hke : k = rl := by omega
     subst hke
     go_wp2
     go_roundg (m6 - (i + 1))
     case measure => omega
     case rel => exact ⟨i + 1, by omega, by omega, by go_num, ⟨by rw [zAll, ← HTB.out, ← HRL.out]; exact HS3.out⟩, HW3, HB3⟩
  ·have hzi : ¬ (i : Int) < (m6 : Int) := by omega
   have hie : i = m6 := by omega
   subst hie
   have HSW := Aside0.mk (show Kd.S (Kd.slice 3 (Kd.int .i64)) 22 wr w.heap.size (fun k => k < wr.heap.size) (.slice (some ⟨g6, 0, none⟩) i c6) (zeroT 4 L) from by rw [← HZ0.out, ← HM6.out]; exact Kd.S_mono HSZ.out (fun k hk => Nat.lt_of_lt_of_le hk HWJ.out))
   obtain ⟨m6, hm6⟩ : ∃ m6, m6 = i := ⟨_, rfl⟩
   subst hm6
   go_wp2_with (go_at_call 85; refine (HDA.out _).mono ?_; rintro e w1d ⟨v, rfl, hN, hb⟩; obtain ⟨AX, cX, rfl⟩ := Kd.N_slice hN; have HFX := Aside0.mk (Kd.F_mono (ok' := fun k => wr.heap.size ≤ k) (Kd.N_F hN) (fun k hk => hk.elim (fun h => h.elim) id)); have HB1 := Aside0.mk (below_step HBZ.out hb); have HS1 := Aside0.mk (Kd.S_below HSW.out hb); clear hN hb)
   obtain ⟨wo, rfl⟩ : ∃ wo : World, wo = wr := ⟨_, rfl⟩
   clear HSZ HSW HBZ
   go_loopg [38] X.length (fun gg s38 wr => ∃ i : Nat, i ≤ X.length ∧ X.length - i ≤ gg ∧ s38 = .int .i64 i ∧ Aside0 (Kd.S (Kd.slice 3 (Kd.int .i64)) 22 wr w.heap.size (fun k => k < wo.heap.size) (.slice (some ⟨g6, 0, none⟩) m6 c6) (jtOf pcV scV X (zeroT 4 L) i)) ∧ Aside0 (Touch w1d wr (fun k => k < wo.heap.size)) ∧ Aside0 (Below w.heap.size w wr))
   case atStart => exact ⟨0, Nat.zero_le _, Nat.le_refl _, rfl, ⟨by have h_ := HS1.out; cases hq : X <;> exact h_⟩, ⟨Touch.refl _ _⟩, HB1⟩
   case round =>
    clear HS1 HB1
    obtain ⟨i, hi, hgi, rfl, HS2, HT2, HB2⟩ := hrel
    by_cases hix : i < X.length
    ·skip
     have hzi : (i : Int) < (X.length : Int) := by omega
     obtain ⟨T, hT⟩ : ∃ T, T = X[i] := ⟨_, rfl⟩
     have hTg : X[i]? = some T := by rw [hT, List.getElem?_eq_getElem hix]
     obtain ⟨p, q, hpv, hqv, hpl, hql, htab⟩ := HST.out i T hTg
     have hF2 := HT2.out.F HFX.out (fun k hk h => by omega)
     obtain ⟨ad, cs, hA, hcl1, hFK, hcell, _⟩ := Kd.F_get hF2 ([] : List (List Int)) (i : Int) (by omega) (by omega)
     obtain ⟨At, ct, rfl, hct, hFx⟩ := Kd.FK_slice_open hFK
     have hx := hcell 0 _ rfl
     rw [Int.toNat_natCast, show (Kd.slice 22 (Kd.slice 3 (Kd.int .i64))).sz = 1 from rfl, Nat.mul_one, Nat.add_zero] at hx
     have hge : X.getD i [] = T := by rw [hT, List.getD_eq_getElem?_getD, List.getElem?_eq_getElem hix]; rfl
     rw [Int.toNat_natCast, hge] at hct hFx
     rw [hge] at hx
     have hvv := HV.out T (List.mem_of_getElem? hTg)
     simp only [Bool.and_eq_true, decide_eq_true_eq] at hvv
     have HIN := Aside0.mk (fun W' (hb : Below wr.heap.size wr W') => hpv ▸ spec_dpParts.calls 300 At ct T (pcV T) W' (Kd.F_now (Kd.F_below hFx hb)) hct hvv.1)
     have HMI := Aside0.mk (fun W' (hb : Below wr.heap.size wr W') => hqv ▸ spec_dpSpecial.calls 300 At ct T (scV T) W' (Kd.F_now (Kd.F_below hFx hb)) hct hvv.2)
     clear hvv
     obtain ⟨tb, htb⟩ : ∃ tb, tb = jtOf pcV scV X (zeroT 4 L) i := ⟨_, rfl⟩
     obtain ⟨tn, htn⟩ : ∃ tn, tn = jtOf pcV scV X (zeroT 4 L) (i + 1) := ⟨_, rfl⟩
     rw [← htb, ← htn] at htab
     rw [← htb] at HS2 hpl hql
     have HTN := Aside0.mk htn
     have hnl : m6 = tb.length := (Kd.S_reads' HS2.out).1
     obtain ⟨gi, ci, hr1, hci, hgb, hr2, hput⟩ := S_put HS2.out p q hpl hql
     have hgi2 : gi < wo.heap.size := row_ok HS2.out p hpl (by omega) hr1
     obtain ⟨row, hrow⟩ : ∃ row, row = tb.getD p [] := ⟨_, rfl⟩
     rw [← hrow] at hr1 hr2 hci hql
     have hput2 : ∀ W', Below wr.heap.size wr W' → W'.frozen? ⟨gi, q, none⟩ = false ∧ Kd.S (Kd.slice 3 (Kd.int .i64)) 22 (W'.setCell ⟨gi, q, none⟩ (.int .i64 (IntKind.i64.wrap (rd row q + 1)))) w.heap.size (fun k => k < wo.heap.size) (.slice (some ⟨g6, 0, none⟩) m6 c6) tn := fun W' hb => ⟨(hput W' hb).1, by rw [htab, cntT, ← hrow, i64_w]; exact (hput W' hb).2 _⟩
     have HPUT := Aside0.mk hput2
     have HBC := Aside0.mk (Below.refl wr.heap.size wr)
     have hz1 : (p : Int) < (m6 : Int) := by omega
     have hz2 : (q : Int) < (row.length : Int) := by omega
     have hfr := (hput2 wr HBC.out).1
     have HGI := Aside0.mk hgi2
     have HGB := Aside0.mk hgb
     subst hA
     clear hput hput2 hF2 hFK hcell hFx hct hT hge hTg hpl hql hpv hqv htab hnl htb htn hrow hgi2 hgb hci HS2 hcl1
     go_wp2
     go_region_law (first
      | (go_simp; go_at_call 86; (refine (HIN.out _ ?hbY).mono ?_); (case hbY => exact (by repeat (first | exact HBC.out | refine below_drew ?_))); rintro e w3 ⟨rfl, hd⟩; have hb := hd.below; clear hd; have n_ := fun h => Aside0.mk (Below.trans (B := wr.heap.size) h (hb.mono (Below.size h))); have m_ := n_ (by repeat (first | exact HBC.out | refine below_drew ?_)); clear n_ HBC; have HBC := m_; clear m_; have hq2 := pw_cell_below HBC.out hr1; have hq3 := pw_cell_below HBC.out hr2; have hq4 := (HPUT.out _ HBC.out).1; clear hb)
      | (go_simp; go_at_call 87; (refine (HMI.out _ ?hbZ).mono ?_); (case hbZ => exact (by repeat (first | exact HBC.out | refine below_drew ?_))); rintro e w4 ⟨rfl, hd⟩; have hb := hd.below; clear hd; have n_ := fun h => Aside0.mk (Below.trans (B := wr.heap.size) h (hb.mono (Below.size h))); have m_ := n_ (by repeat (first | exact HBC.out | refine below_drew ?_)); clear n_ HBC; have HBC := m_; clear m_; (try clear hq2 hq3 hq4); have hq2 := pw_cell_below HBC.out hr1; have hq3 := pw_cell_below HBC.out hr2; have hq4 := (HPUT.out _ HBC.out).1; clear hb))
     all_goals
      have HTS := Aside0.mk ((HT2.out.then_below HBC.out).set ⟨gi, q, none⟩ (.inl HGI.out) (.int .i64 (wrap64 (rd row q + 1))))
      have HBS := Aside0.mk ((HB2.out.trans (HBC.out.mono HB2.out.size)).setCell (p := ⟨gi, q, none⟩) HGB.out (.int .i64 (wrap64 (rd row q + 1))))
      have hps_ := (HPUT.out _ HBC.out).2
      rw [i64_w] at hps_
      have HPS := Aside0.mk hps_
      clear hps_
      go_wp2
      go_roundg (X.length - (i + 1))
      case measure => omega
      case rel => exact ⟨i + 1, by omega, by omega, by go_num, ⟨by rw [← HTN.out]; exact HPS.out⟩, HTS, HBS⟩
    ·have hzi : ¬ (i : Int) < (X.length : Int) := by omega
     have hie : i = X.length := by omega
     subst hie
     go_wp2
     go_ret2
     refine ⟨_, rfl, ?_, HB2.out⟩
     have h5 := Kd.S_mono HS2.out (ok' := fun _ => True) (fun _ _ => trivial)
     unfold spN
     rw [← HLL.out, ← HX.out]
     exact h5
theorem seP_4 : seP 4 7 = true := by decide +kernel
set_option maxHeartbeats 8000000 in
theorem spec_SpreadOfParts.calls_4 (w : World) : Calls Try.prog 36 #[.int .i64 4] w (RetTT w (spN 4 7 (mtA 4).length) true) := by
 have hP := spP_4
 unfold spP at hP
 simp only [Bool.and_eq_true, decide_eq_true_eq] at hP
 obtain ⟨⟨_, hjt⟩, hl⟩ := hP
 have hE := seP_4
 unfold seP at hE
 simp only [Bool.and_eq_true, decide_eq_true_eq] at hE
 obtain ⟨⟨⟨hval, hz0⟩, hpos⟩, hrl0⟩ := hE
 have HS := Aside0.mk (fun W => spec_dpSmall.calls 4 true W (by decide +kernel))
 have HJ := Aside0.mk (fun W => spec_JointTable.calls_4 W)
 have HDA := Aside0.mk (fun W => show Calls Try.prog 85 #[.slice none 0 0, .int .i64 4] W _ from spec_dpAll.calls 1000 (fun _ => False) none 0 [] 4 (dsX 4) W (Kd.V_nil _ _ _ _ _) (ds_all (n := 4) (by omega) (by omega)).sp)
 have HST := Aside0.mk (jtOk_step pcV scV (dsX (4 : Nat)) _ hjt)
 have HV := Aside0.mk (fun T (hT : T ∈ dsX (4 : Nat)) => List.all_eq_true.1 hval T hT)
 have hlen : (dsX 4).length ≤ 2000 := (ds_all (n := 4) (by omega) (by omega)).len
 obtain ⟨L, hL⟩ : ∃ L, L = (mtA 4).length := ⟨_, rfl⟩
 have HLL := Aside0.mk hL
 rw [show ((mtA ((4 : Nat) : Int)).length) = L from hL.symm] at HST hz0 hpos hrl0
 rw [← hL] at HJ
 obtain ⟨J0, hJ0⟩ : ∃ J0, J0 = jtN 4 7 L := ⟨_, rfl⟩
 rw [← hJ0] at HJ hz0 hpos hrl0
 have HZ0 := Aside0.mk hz0
 have HPO := Aside0.mk hpos
 have hj1 := hrl0.1
 have hj2 := hrl0.2
 obtain ⟨X, hX⟩ : ∃ X, X = dsX 4 := ⟨_, rfl⟩
 have HX := Aside0.mk hX
 rw [show dsX ((4 : Nat) : Int) = X from hX.symm] at HST HV
 rw [← hX] at HDA hlen
 clear hl hval hjt hL hX hJ0 hz0 hpos hrl0
 go_enter Try.func36, Try.ntmps36
 go_wp2_with (first
  | (go_at_call 84; refine (HS.out _).mono ?_; rintro e w0 ⟨rfl, hd⟩; have HB := Aside0.mk hd.below; clear hd)
  | (go_at_call 31; refine (HJ.out _).mono ?_; rintro e wj ⟨v, rfl, hS, hb⟩; obtain ⟨g6, c6, rfl, _, hg2, _⟩ := Kd.R_form (Kd.S_R hS) hj1; obtain ⟨m6, hm6⟩ : ∃ m6, m6 = J0.length := ⟨_, rfl⟩; rw [← hm6] at hS ⊢; have HM6 := Aside0.mk hm6; have HSJ := Aside0.mk (Kd.S_mono (ok' := fun k => k < wj.heap.size) (Kd.S_lower (Kd.S_bound hS) HB.out.size) (fun k hk => hk.2.2.1)); have HBJ := Aside0.mk (below_step HB.out hb); clear hS hb hg2 hm6))
 go_loopg [21] m6 (fun gg s21 wr => ∃ i : Nat, i ≤ m6 ∧ m6 - i ≤ gg ∧ s21 = .int .i64 i ∧ Aside0 (Kd.S (Kd.slice 3 (Kd.int .i64)) 22 wr w.heap.size (fun k => k < wj.heap.size) (.slice (some ⟨g6, 0, none⟩) m6 c6) (zAll J0 i)) ∧ Aside0 (wj.heap.size ≤ wr.heap.size) ∧ Aside0 (Below w.heap.size w wr))
 case atStart => exact ⟨0, Nat.zero_le _, Nat.le_refl _, rfl, HSJ, ⟨Nat.le_refl _⟩, HBJ⟩
 case round =>
  clear HSJ HBJ HB
  obtain ⟨i, hi, hgi, rfl, HSZ, HWJ, HBZ⟩ := hrel
  by_cases hix : i < m6
  ·have hzi : (i : Int) < (m6 : Int) := by omega
   obtain ⟨tb, htb⟩ : ∃ tb, tb = zAll J0 i := ⟨_, rfl⟩
   have HTB := Aside0.mk htb
   have htl : i < tb.length := by rw [htb, zAll_len, ← HM6.out]; exact hix
   have hrp2 : 0 < (tb.getD i []).length ∧ (tb.getD i []).length ≤ 1000 := by
    have h1 : ∀ (T : List (List Int)) (k a : Nat), ((zAll T k).getD a []).length = (T.getD a []).length := by
     intro T k a
     induction k with
     | zero => rfl
     | succ k ih => rw [zAll, zRow_row, ih]
    rw [htb, h1]
    have h2 : i < J0.length := by rw [← HM6.out]; exact hix
    rw [List.getD_eq_getElem?_getD, List.getElem?_eq_getElem h2]
    exact of_decide_eq_true (List.all_eq_true.1 HPO.out _ (List.getElem_mem h2))
   have hrp := hrp2.1
   rw [← htb] at HSZ
   obtain ⟨gi, ci, hr1, hci, hgb, _, _, _⟩ := S_row HSZ.out i htl hrp
   have hgi2 : gi < wj.heap.size := row_ok HSZ.out i htl hrp hr1
   have hgne : g6 ≠ gi := row_ne HSZ.out i htl hrp hr1
   obtain ⟨rl, hrl⟩ : ∃ rl, rl = (tb.getD i []).length := ⟨_, rfl⟩
   rw [← hrl] at hr1 hci
   have hrlb : rl ≤ 1000 := by rw [hrl]; exact hrp2.2
   have hm6b : m6 ≤ 1000 := by rw [HM6.out]; exact hj2
   have HRL := Aside0.mk hrl
   have HR1 := Aside0.mk hr1
   have HGNE := Aside0.mk hgne
   have HGB := Aside0.mk hgb
   have HTL := Aside0.mk htl
   clear hrl hrp hrp2 hgne hgb htl htb hgi2
   go_wp2
   obtain ⟨wa, rfl⟩ : ∃ wa : World, wa = wr := ⟨_, rfl⟩
   go_loopg [27] rl (fun gk s27 wr => ∃ k : Nat, k ≤ rl ∧ rl - k ≤ gk ∧ s27 = .int .i64 k ∧ Aside0 (Kd.S (Kd.slice 3 (Kd.int .i64)) 22 wr w.heap.size (fun k => k < wj.heap.size) (.slice (some ⟨g6, 0, none⟩) m6 c6) (zRow tb i k)) ∧ Aside0 (wr.cell? ⟨g6, i, none⟩ = some (.slice (some ⟨gi, 0, none⟩) rl ci)) ∧ Aside0 (wj.heap.size ≤ wr.heap.size) ∧ Aside0 (Below w.heap.size w wr))
   case atStart => exact ⟨0, Nat.zero_le _, Nat.le_refl _, rfl, HSZ, HR1, HWJ, HBZ⟩
   case round =>
    clear HSZ HR1 HBZ HWJ hr1
    obtain ⟨k, hk, hgk, rfl, HS3, HR3, HW3, HB3⟩ := hrel
    by_cases hkl : k < rl
    ·have hzk : (k : Int) < (rl : Int) := by omega
     obtain ⟨gi', ci', hc1, hc2, hc3, hc4, hput⟩ := S_put HS3.out i k (by rw [zRow_len]; exact HTL.out) (by rw [zRow_row, ← HRL.out]; exact hkl)
     have e := Option.some.inj (HR3.out.symm.trans hc1)
     injection e with e1 e2 e3
     injection e1 with e1
     injection e1 with e1
     subst e1
     clear e2 e3
     have hp3 := hput wr (Below.refl _ _)
     have hfz := hp3.1
     have HP := Aside0.mk (hp3.2 0)
     have HRN := Aside0.mk (cell_farV (p := ⟨gi, k, none⟩) (u := .int .i64 0) HGNE.out HR3.out)
     have HBN := Aside0.mk (HB3.out.setCell (p := ⟨gi, k, none⟩) HGB.out (.int .i64 0))
     have HWN := Aside0.mk (show wj.heap.size ≤ (wr.setCell ⟨gi, k, none⟩ (.int .i64 0)).heap.size by simp [World.setCell]; exact HW3.out)
     clear hp3 hput hc1 hc2 hc3
     go_wp2
     go_roundg (rl - (k + 1))
     case measure => omega
     case rel => exact ⟨k + 1, by omega, by omega, by go_num, HP, HRN, HWN, HBN⟩
    ·have hzk : ¬ (k : Int) < (rl : Int) := by omega
     have hke : k = rl := by omega
     subst hke
     go_wp2
     go_roundg (m6 - (i + 1))
     case measure => omega
     case rel => exact ⟨i + 1, by omega, by omega, by go_num, ⟨by rw [zAll, ← HTB.out, ← HRL.out]; exact HS3.out⟩, HW3, HB3⟩
  ·have hzi : ¬ (i : Int) < (m6 : Int) := by omega
   have hie : i = m6 := by omega
   subst hie
   have HSW := Aside0.mk (show Kd.S (Kd.slice 3 (Kd.int .i64)) 22 wr w.heap.size (fun k => k < wr.heap.size) (.slice (some ⟨g6, 0, none⟩) i c6) (zeroT 7 L) from by rw [← HZ0.out, ← HM6.out]; exact Kd.S_mono HSZ.out (fun k hk => Nat.lt_of_lt_of_le hk HWJ.out))
   obtain ⟨m6, hm6⟩ : ∃ m6, m6 = i := ⟨_, rfl⟩
   subst hm6
   go_wp2_with (go_at_call 85; refine (HDA.out _).mono ?_; rintro e w1d ⟨v, rfl, hN, hb⟩; obtain ⟨AX, cX, rfl⟩ := Kd.N_slice hN; have HFX := Aside0.mk (Kd.F_mono (ok' := fun k => wr.heap.size ≤ k) (Kd.N_F hN) (fun k hk => hk.elim (fun h => h.elim) id)); have HB1 := Aside0.mk (below_step HBZ.out hb); have HS1 := Aside0.mk (Kd.S_below HSW.out hb); clear hN hb)
   obtain ⟨wo, rfl⟩ : ∃ wo : World, wo = wr := ⟨_, rfl⟩
   clear HSZ HSW HBZ
   go_loopg [38] X.length (fun gg s38 wr => ∃ i : Nat, i ≤ X.length ∧ X.length - i ≤ gg ∧ s38 = .int .i64 i ∧ Aside0 (Kd.S (Kd.slice 3 (Kd.int .i64)) 22 wr w.heap.size (fun k => k < wo.heap.size) (.slice (some ⟨g6, 0, none⟩) m6 c6) (jtOf pcV scV X (zeroT 7 L) i)) ∧ Aside0 (Touch w1d wr (fun k => k < wo.heap.size)) ∧ Aside0 (Below w.heap.size w wr))
   case atStart => exact ⟨0, Nat.zero_le _, Nat.le_refl _, rfl, ⟨by have h_ := HS1.out; cases hq : X <;> exact h_⟩, ⟨Touch.refl _ _⟩, HB1⟩
   case round =>
    clear HS1 HB1
    obtain ⟨i, hi, hgi, rfl, HS2, HT2, HB2⟩ := hrel
    by_cases hix : i < X.length
    ·skip
     have hzi : (i : Int) < (X.length : Int) := by omega
     obtain ⟨T, hT⟩ : ∃ T, T = X[i] := ⟨_, rfl⟩
     have hTg : X[i]? = some T := by rw [hT, List.getElem?_eq_getElem hix]
     obtain ⟨p, q, hpv, hqv, hpl, hql, htab⟩ := HST.out i T hTg
     have hF2 := HT2.out.F HFX.out (fun k hk h => by omega)
     obtain ⟨ad, cs, hA, hcl1, hFK, hcell, _⟩ := Kd.F_get hF2 ([] : List (List Int)) (i : Int) (by omega) (by omega)
     obtain ⟨At, ct, rfl, hct, hFx⟩ := Kd.FK_slice_open hFK
     have hx := hcell 0 _ rfl
     rw [Int.toNat_natCast, show (Kd.slice 22 (Kd.slice 3 (Kd.int .i64))).sz = 1 from rfl, Nat.mul_one, Nat.add_zero] at hx
     have hge : X.getD i [] = T := by rw [hT, List.getD_eq_getElem?_getD, List.getElem?_eq_getElem hix]; rfl
     rw [Int.toNat_natCast, hge] at hct hFx
     rw [hge] at hx
     have hvv := HV.out T (List.mem_of_getElem? hTg)
     simp only [Bool.and_eq_true, decide_eq_true_eq] at hvv
     have HIN := Aside0.mk (fun W' (hb : Below wr.heap.size wr W') => hpv ▸ spec_dpParts.calls 300 At ct T (pcV T) W' (Kd.F_now (Kd.F_below hFx hb)) hct hvv.1)
     have HMI := Aside0.mk (fun W' (hb : Below wr.heap.size wr W') => hqv ▸ spec_dpSpecial.calls 300 At ct T (scV T) W' (Kd.F_now (Kd.F_below hFx hb)) hct hvv.2)
     clear hvv
     obtain ⟨tb, htb⟩ : ∃ tb, tb = jtOf pcV scV X (zeroT 7 L) i := ⟨_, rfl⟩
     obtain ⟨tn, htn⟩ : ∃ tn, tn = jtOf pcV scV X (zeroT 7 L) (i + 1) := ⟨_, rfl⟩
     rw [← htb, ← htn] at htab
     rw [← htb] at HS2 hpl hql
     have HTN := Aside0.mk htn
     have hnl : m6 = tb.length := (Kd.S_reads' HS2.out).1
     obtain ⟨gi, ci, hr1, hci, hgb, hr2, hput⟩ := S_put HS2.out p q hpl hql
     have hgi2 : gi < wo.heap.size := row_ok HS2.out p hpl (by omega) hr1
     obtain ⟨row, hrow⟩ : ∃ row, row = tb.getD p [] := ⟨_, rfl⟩
     rw [← hrow] at hr1 hr2 hci hql
     have hput2 : ∀ W', Below wr.heap.size wr W' → W'.frozen? ⟨gi, q, none⟩ = false ∧ Kd.S (Kd.slice 3 (Kd.int .i64)) 22 (W'.setCell ⟨gi, q, none⟩ (.int .i64 (IntKind.i64.wrap (rd row q + 1)))) w.heap.size (fun k => k < wo.heap.size) (.slice (some ⟨g6, 0, none⟩) m6 c6) tn := fun W' hb => ⟨(hput W' hb).1, by rw [htab, cntT, ← hrow, i64_w]; exact (hput W' hb).2 _⟩
     have HPUT := Aside0.mk hput2
     have HBC := Aside0.mk (Below.refl wr.heap.size wr)
     have hz1 : (p : Int) < (m6 : Int) := by omega
     have hz2 : (q : Int) < (row.length : Int) := by omega
     have hfr := (hput2 wr HBC.out).1
     have HGI := Aside0.mk hgi2
     have HGB := Aside0.mk hgb
     subst hA
     clear hput hput2 hF2 hFK hcell hFx hct hT hge hTg hpl hql hpv hqv htab hnl htb htn hrow hgi2 hgb hci HS2 hcl1
     go_wp2
     go_region_law (first
      | (go_simp; go_at_call 86; (refine (HIN.out _ ?hbY).mono ?_); (case hbY => exact (by repeat (first | exact HBC.out | refine below_drew ?_))); rintro e w3 ⟨rfl, hd⟩; have hb := hd.below; clear hd; have n_ := fun h => Aside0.mk (Below.trans (B := wr.heap.size) h (hb.mono (Below.size h))); have m_ := n_ (by repeat (first | exact HBC.out | refine below_drew ?_)); clear n_ HBC; have HBC := m_; clear m_; have hq2 := pw_cell_below HBC.out hr1; have hq3 := pw_cell_below HBC.out hr2; have hq4 := (HPUT.out _ HBC.out).1; clear hb)
      | (go_simp; go_at_call 87; (refine (HMI.out _ ?hbZ).mono ?_); (case hbZ => exact (by repeat (first | exact HBC.out | refine below_drew ?_))); rintro e w4 ⟨rfl, hd⟩; have hb := hd.below; clear hd; have n_ := fun h => Aside0.mk (Below.trans (B := wr.heap.size) h (hb.mono (Below.size h))); have m_ := n_ (by repeat (first | exact HBC.out | refine below_drew ?_)); clear n_ HBC; have HBC := m_; clear m_; (try clear hq2 hq3 hq4); have hq2 := pw_cell_below HBC.out hr1; have hq3 := pw_cell_below HBC.out hr2; have hq4 := (HPUT.out _ HBC.out).1; clear hb))
     all_goals
      have HTS := Aside0.mk ((HT2.out.then_below HBC.out).set ⟨gi, q, none⟩ (.inl HGI.out) (.int .i64 (wrap64 (rd row q + 1))))
      have HBS := Aside0.mk ((HB2.out.trans (HBC.out.mono HB2.out.size)).setCell (p := ⟨gi, q, none⟩) HGB.out (.int .i64 (wrap64 (rd row q + 1))))
      have hps_ := (HPUT.out _ HBC.out).2
      rw [i64_w] at hps_
      have HPS := Aside0.mk hps_
      clear hps_
      go_wp2
      go_roundg (X.length - (i + 1))
      case measure => omega
      case rel => exact ⟨i + 1, by omega, by omega, by go_num, ⟨by rw [← HTN.out]; exact HPS.out⟩, HTS, HBS⟩
    ·have hzi : ¬ (i : Int) < (X.length : Int) := by omega
     have hie : i = X.length := by omega
     subst hie
     go_wp2
     go_ret2
     refine ⟨_, rfl, ?_, HB2.out⟩
     have h5 := Kd.S_mono HS2.out (ok' := fun _ => True) (fun _ _ => trivial)
     unfold spN
     rw [← HLL.out, ← HX.out]
     exact h5
set_option maxHeartbeats 2000000 in
theorem spec_SpreadOfParts_calls (n : Int) (w : World) : Calls Try.prog 36 #[.int .i64 n] w (RetTT w (spA n) (inB n 1 4)) := by
 cases hi : inB n 1 4 with
 | false =>
  have HS := Aside0.mk (fun W => spec_dpSmall.calls n false W (by unfold spec_dpSmall.f; rw [in_eq, hi]; rfl))
  rw [spA_out hi]
  clear hi
  go_enter Try.func36, Try.ntmps36
  go_wp2_with (go_at_call 84; refine (HS.out _).mono ?_; rintro e w1 ⟨rfl, hd⟩; have HB := Aside0.mk hd.below; clear hd)
  go_ret2
  exact ⟨_, rfl, Kd.S_nil _ _ _ _ _, HB.out⟩
 | true =>
  rcases one_four hi with rfl | rfl | rfl | rfl
  ·exact spec_SpreadOfParts.calls_1 w
  ·exact spec_SpreadOfParts.calls_2 w
  ·exact spec_SpreadOfParts.calls_3 w
  ·exact spec_SpreadOfParts.calls_4 w
end Go.Proofs.Ytdcdkckpmkfjdaa.L
