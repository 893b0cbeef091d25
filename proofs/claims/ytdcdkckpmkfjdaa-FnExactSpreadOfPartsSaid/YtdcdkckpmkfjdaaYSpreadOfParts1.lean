/- Texts of one chain, in build order. -/
import Derived.Test.YtdcdkckpmkfjdaaYSpreadOfParts0
import Derived.Test.YtdcdkckpmkfjdaaWMore
namespace Go.Proofs.Ytdcdkckpmkfjdaa.L
open Go.RowKit Go.Proofs.Ytdcdkckpmkfjdaa Go.Proofs.Ytdcdkckpmkfjdaa.P Go.Proofs.YtdcdkckpmkfjdaaW.PrintWords Go.Proofs.YtdcdkckpmkfjdaaW.PrintLast Go.Proofs.YtdcdkckpmkfjdaaW.PrintMore
set_option linter.unusedVariables false
set_option linter.unusedSimpArgs false
set_option maxRecDepth 100000

def pcV (T : List (List Int)) : Int := ((impl_PartsOf.f T).getD (0, false)).1
def scV (T : List (List Int)) : Int := ((impl_SpecialParts.f T).getD (0, false)).1
def spN (n : Int) (rows cols : Nat) : List (List Int) := jtOf pcV scV (dsX n) (zeroT rows cols) (dsX n).length
def spP (n : Nat) (rows : Nat) : Bool := ((dsX n).all fun T => (impl_PartsOf.f T).isSome && (impl_SpecialParts.f T).isSome) && jtOk pcV scV (dsX n) (zeroT rows (mtA n).length) && decide ((mtA n).length ≤ 1000)
theorem SpreadOfParts_1.gives (i j : Nat) (W : World) : Gives Try.prog 88 #[.int .i64 i, .int .i64 j] W (.int .i64 0) := by
 unfold Gives
 go_enter Try.func88, Try.ntmps88
 go_wp2
 go_ret
 exact ⟨rfl, Below.refl _ _⟩
theorem table_zeroS (rows cols : Nat) (hr : rows ≤ 1000) (hc : cols ≤ 1000) (w : World) : Calls Try.prog 80 #[.int .i64 rows, .int .i64 cols, .func (.func 88) #[] #[]] w fun e w' => ∃ v0_ : Value, e = .returned (v0_) ∧ Kd.S (Kd.slice 3 (Kd.int .i64)) 22 w' w.heap.size (fun _ => True) v0_ (zeroT rows cols) ∧ Below w.heap.size w w' :=
 impl_tableC.calls 88 #[] (fun _ _ => 0) rows cols w (by omega) (by omega) (enters_of Try.func88 (by kernel_rfl) rfl) (fun i j W _ _ _ => SpreadOfParts_1.gives i j W)
theorem spP_1 : spP 1 1 = true := by decide +kernel
set_option maxHeartbeats 4000000 in
theorem impl_SpreadOfParts.calls_1 (w : World) : Calls Try.prog 37 #[.int .i64 1] w (RetTT w (spN 1 1 (mtA 1).length) true) := by
 have HM := Aside0.mk (fun W => show Calls Try.prog 18 #[.int .i64 1] W (RetTR W (mtA 1) true) from impl_MinusTable_calls 1 W)
 have hP := spP_1
 unfold spP at hP
 simp only [Bool.and_eq_true, decide_eq_true_eq] at hP
 obtain ⟨⟨hval, hjt⟩, hl⟩ := hP
 obtain ⟨L, hL⟩ : ∃ L, L = (mtA 1).length := ⟨_, rfl⟩
 rw [show ((mtA ((1 : Nat) : Int)).length) = L from hL.symm] at hl
 have HT := Aside0.mk (fun W => show Calls Try.prog 80 #[.int .i64 1, .int .i64 L, .func (.func 88) #[] #[]] W _ from table_zeroS 1 L (by omega) (by omega) W)
 have HD := Aside0.mk (fun W => impl_descending_calls 1 (by omega) (by omega) W)
 have HST := Aside0.mk (jtOk_step pcV scV (dsX (1 : Nat)) _ hjt)
 have HV := Aside0.mk (fun T (hT : T ∈ dsX (1 : Nat)) => List.all_eq_true.1 hval T hT)
 have hlen : (dsX 1).length ≤ 2000 := (ds_all (n := 1) (by omega) (by omega)).len
 have HLL := Aside0.mk hL
 rw [show ((mtA ((1 : Nat) : Int)).length) = L from hL.symm] at HST
 obtain ⟨X, hX⟩ : ∃ X, X = dsX 1 := ⟨_, rfl⟩
 have HX := Aside0.mk hX
 rw [show dsX ((1 : Nat) : Int) = X from hX.symm] at HST HV
 rw [← hX] at HD hlen
 obtain ⟨r, hr⟩ : ∃ r, r = mtA 1 := ⟨_, rfl⟩
 rw [← hr] at HM
 have HRL := Aside0.mk (show r.length = L by rw [hr, hL])
 clear hl hr hval hjt hL hX
 go_enter Try.func37, Try.ntmps37
 go_wp2_with (first
  | (go_at_call 18; refine (HM.out _).mono ?_; rintro e w1 ⟨v, rfl, hR, hb⟩; obtain ⟨A1, c1, rfl⟩ := Kd.R_slice hR; have HB := Aside0.mk hb; rw [HRL.out]; clear hR hb)
  | (go_at_call 80; refine (HT.out _).mono ?_; rintro e wo ⟨v, rfl, hS, hb⟩; obtain ⟨g6, c6, rfl, _, hg2, _⟩ := Kd.R_form (Kd.S_R hS) (by simp [zeroT, tableL]); obtain ⟨m6, hm6⟩ : ∃ m6, m6 = (zeroT 1 L).length := ⟨_, rfl⟩; rw [← hm6] at hS ⊢; have HS := Aside0.mk (Kd.S_mono (ok' := fun k => k < wo.heap.size) (Kd.S_lower (Kd.S_bound hS) HB.out.size) (fun k hk => hk.2.2.1)); have HBr := Aside0.mk (below_step HB.out hb); clear hS hb hg2 hm6)
  | (go_at_call 89; refine (HD.out _).mono ?_; rintro e w1d ⟨v, rfl, hS, hb⟩; obtain ⟨AX, cX, rfl⟩ := Kd.R_slice (Kd.S_R hS); have HFX := Aside0.mk (Kd.F_mono (ok' := fun k => wo.heap.size ≤ k) (tab_F (Kd.S_F (Kd.S_bound hS))) (fun k hk => hk.2.1)); have HB1 := Aside0.mk (below_step HBr.out hb); have HS1 := Aside0.mk (Kd.S_below HS.out hb); clear hS hb))
 go_loopg [36] X.length (fun gg s36 wr => ∃ i : Nat, i ≤ X.length ∧ X.length - i ≤ gg ∧ s36 = .int .i64 i ∧ Aside0 (Kd.S (Kd.slice 3 (Kd.int .i64)) 22 wr w.heap.size (fun k => k < wo.heap.size) (.slice (some ⟨g6, 0, none⟩) m6 c6) (jtOf pcV scV X (zeroT 1 L) i)) ∧ Aside0 (Touch w1d wr (fun k => k < wo.heap.size)) ∧ Aside0 (Below w.heap.size w wr))
 case atStart => exact ⟨0, Nat.zero_le _, Nat.le_refl _, rfl, ⟨by have h_ := HS1.out; cases hq : X <;> exact h_⟩, ⟨Touch.refl _ _⟩, HB1⟩
 case round =>
    clear HS1 HB1
    obtain ⟨i, hi, hgi, rfl, HS2, HT2, HB2⟩ := hrel
    by_cases hix : i < X.length
    ·skip
     have hzi : (i : Int) < (X.length : Int) := by omega
     obtain ⟨T, hT⟩ : ∃ T, T = X[i] := ⟨_, rfl⟩
     have hTg : X[i]? = some T := by rw [hT, List.getElem?_eq_getElem hix]
     obtain ⟨p, q, hpv, hqv, hpl, hql, htab⟩ := HST.out i T hTg
     have hF2 := HT2.out.F HFX.out (fun k hk h => by omega)
     obtain ⟨ad, cs, hA, hcl1, hFK, hcell, _⟩ := Kd.F_get hF2 ([] : List (List Int)) (i : Int) (by omega) (by omega)
     obtain ⟨At, ct, rfl, hct, hFx⟩ := Kd.FK_slice_open hFK
     have hx := hcell 0 _ rfl
     rw [Int.toNat_natCast, show (Kd.slice 22 (Kd.slice 3 (Kd.int .i64))).sz = 1 from rfl, Nat.mul_one, Nat.add_zero] at hx
     have hge : X.getD i [] = T := by rw [hT, List.getD_eq_getElem?_getD, List.getElem?_eq_getElem hix]; rfl
     rw [Int.toNat_natCast, hge] at hct hFx
     rw [hge] at hx
     have hvv := HV.out T (List.mem_of_getElem? hTg)
     rw [Bool.and_eq_true] at hvv
     obtain ⟨⟨a1, b1⟩, e1⟩ := Option.isSome_iff_exists.1 hvv.1
     obtain ⟨⟨a2, b2⟩, e2⟩ := Option.isSome_iff_exists.1 hvv.2
     have ha1 : a1 = (p : Int) := by rw [← hpv]; unfold pcV; rw [e1]; rfl
     have ha2 : a2 = (q : Int) := by rw [← hqv]; unfold scV; rw [e2]; rfl
     subst ha1
     subst ha2
     have HIN := Aside0.mk (fun W' (hb : Below wr.heap.size wr W') => impl_PartsOf.calls At ct T p b1 W' (Kd.F_now (Kd.F_below hFx hb)) hct e1)
     have HMI := Aside0.mk (fun W' (hb : Below wr.heap.size wr W') => impl_SpecialParts.calls At ct T q b2 W' (Kd.F_now (Kd.F_below hFx hb)) hct e2)
     clear e1 e2 hvv
     obtain ⟨tb, htb⟩ : ∃ tb, tb = jtOf pcV scV X (zeroT 1 L) i := ⟨_, rfl⟩
     obtain ⟨tn, htn⟩ : ∃ tn, tn = jtOf pcV scV X (zeroT 1 L) (i + 1) := ⟨_, rfl⟩
     rw [← htb, ← htn] at htab
     rw [← htb] at HS2 hpl hql
     have HTN := Aside0.mk htn
     have hnl : m6 = tb.length := (Kd.S_reads' HS2.out).1
     obtain ⟨gi, ci, hr1, hci, hgb, hr2, hput⟩ := S_put HS2.out p q hpl hql
     have hgi2 : gi < wo.heap.size := row_ok HS2.out p hpl (by omega) hr1
     obtain ⟨row, hrow⟩ : ∃ row, row = tb.getD p [] := ⟨_, rfl⟩
     rw [← hrow] at hr1 hr2 hci hql
     have hput2 : ∀ W', Below wr.heap.size wr W' → W'.frozen? ⟨gi, q, none⟩ = false ∧ Kd.S (Kd.slice 3 (Kd.int .i64)) 22 (W'.setCell ⟨gi, q, none⟩ (.int .i64 (IntKind.i64.wrap (rd row q + 1)))) w.heap.size (fun k => k < wo.heap.size) (.slice (some ⟨g6, 0, none⟩) m6 c6) tn := fun W' hb => ⟨(hput W' hb).1, by rw [htab, cntT, ← hrow, i64_w]; exact (hput W' hb).2 _⟩
     have HPUT := Aside0.mk hput2
     have HBC := Aside0.mk (Below.refl wr.heap.size wr)
     have hz1 : (p : Int) < (m6 : Int) := by omega
     have hz2 : (q : Int) < (row.length : Int) := by omega
     have hfr := (hput2 wr HBC.out).1
     have HGI := Aside0.mk hgi2
     have HGB := Aside0.mk hgb
     subst hA
     clear hput hput2 hF2 hFK hcell hFx hct hT hge hTg hpl hql hpv hqv htab hnl htb htn hrow hgi2 hgb hci HS2 hcl1
     go_wp2_with (first
      | (go_at_call 90; refine (HIN.out _ HBC.out).mono ?_; rintro e w3 ⟨rfl, hb⟩; have n_ := Aside0.mk (HBC.out.trans (hb.mono HBC.out.size)); clear HBC hb; have HBC := n_; clear n_)
      | (go_at_call 91; refine (HMI.out _ HBC.out).mono ?_; rintro e w4 ⟨rfl, hb⟩; have n_ := Aside0.mk (HBC.out.trans (hb.mono HBC.out.size)); clear HBC hb; have HBC := n_; clear n_; have hq2 := pw_cell_below HBC.out hr1; have hq3 := pw_cell_below HBC.out hr2; have hq4 := (HPUT.out _ HBC.out).1))
     have HTS := Aside0.mk ((HT2.out.then_below HBC.out).set ⟨gi, q, none⟩ (.inl HGI.out) (.int .i64 (wrap64 (rd row q + 1))))
     have HBS := Aside0.mk ((HB2.out.trans (HBC.out.mono HB2.out.size)).setCell (p := ⟨gi, q, none⟩) HGB.out (.int .i64 (wrap64 (rd row q + 1))))
     have hps_ := (HPUT.out _ HBC.out).2
     rw [i64_w] at hps_
     have HPS := Aside0.mk hps_
     clear hps_
     go_roundg (X.length - (i + 1))
     case measure => omega
     case rel => exact ⟨i + 1, by omega, by omega, by go_num, ⟨by rw [← HTN.out]; exact HPS.out⟩, HTS, HBS⟩
    ·have hzi : ¬ (i : Int) < (X.length : Int) := by omega
     have hie : i = X.length := by omega
     subst hie
     go_wp2
     go_ret2
     refine ⟨_, rfl, ?_, HB2.out⟩
     have h5 := Kd.S_mono HS2.out (ok' := fun _ => True) (fun _ _ => trivial)
     unfold spN
     rw [← HLL.out, ← HX.out]
     exact h5
theorem spP_2 : spP 2 2 = true := by decide +kernel
set_option maxHeartbeats 4000000 in
theorem impl_SpreadOfParts.calls_2 (w : World) : Calls Try.prog 37 #[.int .i64 2] w (RetTT w (spN 2 2 (mtA 2).length) true) := by
 have HM := Aside0.mk (fun W => show Calls Try.prog 18 #[.int .i64 2] W (RetTR W (mtA 2) true) from impl_MinusTable_calls 2 W)
 have hP := spP_2
 unfold spP at hP
 simp only [Bool.and_eq_true, decide_eq_true_eq] at hP
 obtain ⟨⟨hval, hjt⟩, hl⟩ := hP
 obtain ⟨L, hL⟩ : ∃ L, L = (mtA 2).length := ⟨_, rfl⟩
 rw [show ((mtA ((2 : Nat) : Int)).length) = L from hL.symm] at hl
 have HT := Aside0.mk (fun W => show Calls Try.prog 80 #[.int .i64 2, .int .i64 L, .func (.func 88) #[] #[]] W _ from table_zeroS 2 L (by omega) (by omega) W)
 have HD := Aside0.mk (fun W => impl_descending_calls 2 (by omega) (by omega) W)
 have HST := Aside0.mk (jtOk_step pcV scV (dsX (2 : Nat)) _ hjt)
 have HV := Aside0.mk (fun T (hT : T ∈ dsX (2 : Nat)) => List.all_eq_true.1 hval T hT)
 have hlen : (dsX 2).length ≤ 2000 := (ds_all (n := 2) (by omega) (by omega)).len
 have HLL := Aside0.mk hL
 rw [show ((mtA ((2 : Nat) : Int)).length) = L from hL.symm] at HST
 obtain ⟨X, hX⟩ : ∃ X, X = dsX 2 := ⟨_, rfl⟩
 have HX := Aside0.mk hX
 rw [show dsX ((2 : Nat) : Int) = X from hX.symm] at HST HV
 rw [← hX] at HD hlen
 obtain ⟨r, hr⟩ : ∃ r, r = mtA 2 := ⟨_, rfl⟩
 rw [← hr] at HM
 have HRL := Aside0.mk (show r.length = L by rw [hr, hL])
 clear hl hr hval hjt hL hX
 go_enter Try.func37, Try.ntmps37
 go_wp2_with (first
  | (go_at_call 18; refine (HM.out _).mono ?_; rintro e w1 ⟨v, rfl, hR, hb⟩; obtain ⟨A1, c1, rfl⟩ := Kd.R_slice hR; have HB := Aside0.mk hb; rw [HRL.out]; clear hR hb)
  | (go_at_call 80; refine (HT.out _).mono ?_; rintro e wo ⟨v, rfl, hS, hb⟩; obtain ⟨g6, c6, rfl, _, hg2, _⟩ := Kd.R_form (Kd.S_R hS) (by simp [zeroT, tableL]); obtain ⟨m6, hm6⟩ : ∃ m6, m6 = (zeroT 2 L).length := ⟨_, rfl⟩; rw [← hm6] at hS ⊢; have HS := Aside0.mk (Kd.S_mono (ok' := fun k => k < wo.heap.size) (Kd.S_lower (Kd.S_bound hS) HB.out.size) (fun k hk => hk.2.2.1)); have HBr := Aside0.mk (below_step HB.out hb); clear hS hb hg2 hm6)
  | (go_at_call 89; refine (HD.out _).mono ?_; rintro e w1d ⟨v, rfl, hS, hb⟩; obtain ⟨AX, cX, rfl⟩ := Kd.R_slice (Kd.S_R hS); have HFX := Aside0.mk (Kd.F_mono (ok' := fun k => wo.heap.size ≤ k) (tab_F (Kd.S_F (Kd.S_bound hS))) (fun k hk => hk.2.1)); have HB1 := Aside0.mk (below_step HBr.out hb); have HS1 := Aside0.mk (Kd.S_below HS.out hb); clear hS hb))
 go_loopg [36] X.length (fun gg s36 wr => ∃ i : Nat, i ≤ X.length ∧ X.length - i ≤ gg ∧ s36 = .int .i64 i ∧ Aside0 (Kd.S (Kd.slice 3 (Kd.int .i64)) 22 wr w.heap.size (fun k => k < wo.heap.size) (.slice (some ⟨g6, 0, none⟩) m6 c6) (jtOf pcV scV X (zeroT 2 L) i)) ∧ Aside0 (Touch w1d wr (fun k => k < wo.heap.size)) ∧ Aside0 (Below w.heap.size w wr))
 case atStart => exact ⟨0, Nat.zero_le _, Nat.le_refl _, rfl, ⟨by have h_ := HS1.out; cases hq : X <;> exact h_⟩, ⟨Touch.refl _ _⟩, HB1⟩
 case round =>
    clear HS1 HB1
    obtain ⟨i, hi, hgi, rfl, HS2, HT2, HB2⟩ := hrel
    by_cases hix : i < X.length
    ·skip
     have hzi : (i : Int) < (X.length : Int) := by omega
     obtain ⟨T, hT⟩ : ∃ T, T = X[i] := ⟨_, rfl⟩
     have hTg : X[i]? = some T := by rw [hT, List.getElem?_eq_getElem hix]
     obtain ⟨p, q, hpv, hqv, hpl, hql, htab⟩ := HST.out i T hTg
     have hF2 := HT2.out.F HFX.out (fun k hk h => by omega)
     obtain ⟨ad, cs, hA, hcl1, hFK, hcell, _⟩ := Kd.F_get hF2 ([] : List (List Int)) (i : Int) (by omega) (by omega)
     obtain ⟨At, ct, rfl, hct, hFx⟩ := Kd.FK_slice_open hFK
     have hx := hcell 0 _ rfl
     rw [Int.toNat_natCast, show (Kd.slice 22 (Kd.slice 3 (Kd.int .i64))).sz = 1 from rfl, Nat.mul_one, Nat.add_zero] at hx
     have hge : X.getD i [] = T := by rw [hT, List.getD_eq_getElem?_getD, List.getElem?_eq_getElem hix]; rfl
     rw [Int.toNat_natCast, hge] at hct hFx
     rw [hge] at hx
     have hvv := HV.out T (List.mem_of_getElem? hTg)
     rw [Bool.and_eq_true] at hvv
     obtain ⟨⟨a1, b1⟩, e1⟩ := Option.isSome_iff_exists.1 hvv.1
     obtain ⟨⟨a2, b2⟩, e2⟩ := Option.isSome_iff_exists.1 hvv.2
     have ha1 : a1 = (p : Int) := by rw [← hpv]; unfold pcV; rw [e1]; rfl
     have ha2 : a2 = (q : Int) := by rw [← hqv]; unfold scV; rw [e2]; rfl
     subst ha1
     subst ha2
     have HIN := Aside0.mk (fun W' (hb : Below wr.heap.size wr W') => impl_PartsOf.calls At ct T p b1 W' (Kd.F_now (Kd.F_below hFx hb)) hct e1)
     have HMI := Aside0.mk (fun W' (hb : Below wr.heap.size wr W') => impl_SpecialParts.calls At ct T q b2 W' (Kd.F_now (Kd.F_below hFx hb)) hct e2)
     clear e1 e2 hvv
     obtain ⟨tb, htb⟩ : ∃ tb, tb = jtOf pcV scV X (zeroT 2 L) i := ⟨_, rfl⟩
     obtain ⟨tn, htn⟩ : ∃ tn, tn = jtOf pcV scV X (zeroT 2 L) (i + 1) := ⟨_, rfl⟩
     rw [← htb, ← htn] at htab
     rw [← htb] at HS2 hpl hql
     have HTN := Aside0.mk htn
     have hnl : m6 = tb.length := (Kd.S_reads' HS2.out).1
     obtain ⟨gi, ci, hr1, hci, hgb, hr2, hput⟩ := S_put HS2.out p q hpl hql
     have hgi2 : gi < wo.heap.size := row_ok HS2.out p hpl (by omega) hr1
     obtain ⟨row, hrow⟩ : ∃ row, row = tb.getD p [] := ⟨_, rfl⟩
     rw [← hrow] at hr1 hr2 hci hql
     have hput2 : ∀ W', Below wr.heap.size wr W' → W'.frozen? ⟨gi, q, none⟩ = false ∧ Kd.S (Kd.slice 3 (Kd.int .i64)) 22 (W'.setCell ⟨gi, q, none⟩ (.int .i64 (IntKind.i64.wrap (rd row q + 1)))) w.heap.size (fun k => k < wo.heap.size) (.slice (some ⟨g6, 0, none⟩) m6 c6) tn := fun W' hb => ⟨(hput W' hb).1, by rw [htab, cntT, ← hrow, i64_w]; exact (hput W' hb).2 _⟩
     have HPUT := Aside0.mk hput2
     have HBC := Aside0.mk (Below.refl wr.heap.size wr)
     have hz1 : (p : Int) < (m6 : Int) := by omega
     have hz2 : (q : Int) < (row.length : Int) := by omega
     have hfr := (hput2 wr HBC.out).1
     have HGI := Aside0.mk hgi2
     have HGB := Aside0.mk hgb
     subst hA
     clear hput hput2 hF2 hFK hcell hFx hct hT hge hTg hpl hql hpv hqv htab hnl htb htn hrow hgi2 hgb hci HS2 hcl1
     go_wp2_with (first
      | (go_at_call 90; refine (HIN.out _ HBC.out).mono ?_; rintro e w3 ⟨rfl, hb⟩; have n_ := Aside0.mk (HBC.out.trans (hb.mono HBC.out.size)); clear HBC hb; have HBC := n_; clear n_)
      | (go_at_call 91; refine (HMI.out _ HBC.out).mono ?_; rintro e w4 ⟨rfl, hb⟩; have n_ := Aside0.mk (HBC.out.trans (hb.mono HBC.out.size)); clear HBC hb; have HBC := n_; clear n_; have hq2 := pw_cell_below HBC.out hr1; have hq3 := pw_cell_below HBC.out hr2; have hq4 := (HPUT.out _ HBC.out).1))
     have HTS := Aside0.mk ((HT2.out.then_below HBC.out).set ⟨gi, q, none⟩ (.inl HGI.out) (.int .i64 (wrap64 (rd row q + 1))))
     have HBS := Aside0.mk ((HB2.out.trans (HBC.out.mono HB2.out.size)).setCell (p := ⟨gi, q, none⟩) HGB.out (.int .i64 (wrap64 (rd row q + 1))))
     have hps_ := (HPUT.out _ HBC.out).2
     rw [i64_w] at hps_
     have HPS := Aside0.mk hps_
     clear hps_
     go_roundg (X.length - (i + 1))
     case measure => omega
     case rel => exact ⟨i + 1, by omega, by omega, by go_num, ⟨by rw [← HTN.out]; exact HPS.out⟩, HTS, HBS⟩
    ·have hzi : ¬ (i : Int) < (X.length : Int) := by omega
     have hie : i = X.length := by omega
     subst hie
     go_wp2
     go_ret2
     refine ⟨_, rfl, ?_, HB2.out⟩
     have h5 := Kd.S_mono HS2.out (ok' := fun _ => True) (fun _ _ => trivial)
     unfold spN
     rw [← HLL.out, ← HX.out]
     exact h5
theorem spP_3 : spP 3 4 = true := by decide +kernel
set_option maxHeartbeats 4000000 in
theorem impl_SpreadOfParts.calls_3 (w : World) : Calls Try.prog 37 #[.int .i64 3] w (RetTT w (spN 3 4 (mtA 3).length) true) := by
 have HM := Aside0.mk (fun W => show Calls Try.prog 18 #[.int .i64 3] W (RetTR W (mtA 3) true) from impl_MinusTable_calls 3 W)
 have hP := spP_3
 unfold spP at hP
 simp only [Bool.and_eq_true, decide_eq_true_eq] at hP
 obtain ⟨⟨hval, hjt⟩, hl⟩ := hP
 obtain ⟨L, hL⟩ : ∃ L, L = (mtA 3).length := ⟨_, rfl⟩
 rw [show ((mtA ((3 : Nat) : Int)).length) = L from hL.symm] at hl
 have HT := Aside0.mk (fun W => show Calls Try.prog 80 #[.int .i64 4, .int .i64 L, .func (.func 88) #[] #[]] W _ from table_zeroS 4 L (by omega) (by omega) W)
 have HD := Aside0.mk (fun W => impl_descending_calls 3 (by omega) (by omega) W)
 have HST := Aside0.mk (jtOk_step pcV scV (dsX (3 : Nat)) _ hjt)
 have HV := Aside0.mk (fun T (hT : T ∈ dsX (3 : Nat)) => List.all_eq_true.1 hval T hT)
 have hlen : (dsX 3).length ≤ 2000 := (ds_all (n := 3) (by omega) (by omega)).len
 have HLL := Aside0.mk hL
 rw [show ((mtA ((3 : Nat) : Int)).length) = L from hL.symm] at HST
 obtain ⟨X, hX⟩ : ∃ X, X = dsX 3 := ⟨_, rfl⟩
 have HX := Aside0.mk hX
 rw [show dsX ((3 : Nat) : Int) = X from hX.symm] at HST HV
 rw [← hX] at HD hlen
 obtain ⟨r, hr⟩ : ∃ r, r = mtA 3 := ⟨_, rfl⟩
 rw [← hr] at HM
 have HRL := Aside0.mk (show r.length = L by rw [hr, hL])
 clear hl hr hval hjt hL hX
 go_enter Try.func37, Try.ntmps37
 go_wp2_with (first
  | (go_at_call 18; refine (HM.out _).mono ?_; rintro e w1 ⟨v, rfl, hR, hb⟩; obtain ⟨A1, c1, rfl⟩ := Kd.R_slice hR; have HB := Aside0.mk hb; rw [HRL.out]; clear hR hb)
  | (go_at_call 80; refine (HT.out _).mono ?_; rintro e wo ⟨v, rfl, hS, hb⟩; obtain ⟨g6, c6, rfl, _, hg2, _⟩ := Kd.R_form (Kd.S_R hS) (by simp [zeroT, tableL]); obtain ⟨m6, hm6⟩ : ∃ m6, m6 = (zeroT 4 L).length := ⟨_, rfl⟩; rw [← hm6] at hS ⊢; have HS := Aside0.mk (Kd.S_mono (ok' := fun k => k < wo.heap.size) (Kd.S_lower (Kd.S_bound hS) HB.out.size) (fun k hk => hk.2.2.1)); have HBr := Aside0.mk (below_step HB.out hb); clear hS hb hg2 hm6)
  | (go_at_call 89; refine (HD.out _).mono ?_; rintro e w1d ⟨v, rfl, hS, hb⟩; obtain ⟨AX, cX, rfl⟩ := Kd.R_slice (Kd.S_R hS); have HFX := Aside0.mk (Kd.F_mono (ok' := fun k => wo.heap.size ≤ k) (tab_F (Kd.S_F (Kd.S_bound hS))) (fun k hk => hk.2.1)); have HB1 := Aside0.mk (below_step HBr.out hb); have HS1 := Aside0.mk (Kd.S_below HS.out hb); clear hS hb))
 go_loopg [36] X.length (fun gg s36 wr => ∃ i : Nat, i ≤ X.length ∧ X.length - i ≤ gg ∧ s36 = .int .i64 i ∧ Aside0 (Kd.S (Kd.slice 3 (Kd.int .i64)) 22 wr w.heap.size (fun k => k < wo.heap.size) (.slice (some ⟨g6, 0, none⟩) m6 c6) (jtOf pcV scV X (zeroT 4 L) i)) ∧ Aside0 (Touch w1d wr (fun k => k < wo.heap.size)) ∧ Aside0 (Below w.heap.size w wr))
 case atStart => exact ⟨0, Nat.zero_le _, Nat.le_refl _, rfl, ⟨by have h_ := HS1.out; cases hq : X <;> exact h_⟩, ⟨Touch.refl _ _⟩, HB1⟩
 case round =>
    clear HS1 HB1
    obtain ⟨i, hi, hgi, rfl, HS2, HT2, HB2⟩ := hrel
    by_cases hix : i < X.length
    ·skip
     have hzi : (i : Int) < (X.length : Int) := by omega
     obtain ⟨T, hT⟩ : ∃ T, T = X[i] := ⟨_, rfl⟩
     have hTg : X[i]? = some T := by rw [hT, List.getElem?_eq_getElem hix]
     obtain ⟨p, q, hpv, hqv, hpl, hql, htab⟩ := HST.out i T hTg
     have hF2 := HT2.out.F HFX.out (fun k hk h => by omega)
     obtain ⟨ad, cs, hA, hcl1, hFK, hcell, _⟩ := Kd.F_get hF2 ([] : List (List Int)) (i : Int) (by omega) (by omega)
     obtain ⟨At, ct, rfl, hct, hFx⟩ := Kd.FK_slice_open hFK
     have hx := hcell 0 _ rfl
     rw [Int.toNat_natCast, show (Kd.slice 22 (Kd.slice 3 (Kd.int .i64))).sz = 1 from rfl, Nat.mul_one, Nat.add_zero] at hx
     have hge : X.getD i [] = T := by rw [hT, List.getD_eq_getElem?_getD, List.getElem?_eq_getElem hix]; rfl
     rw [Int.toNat_natCast, hge] at hct hFx
     rw [hge] at hx
     have hvv := HV.out T (List.mem_of_getElem? hTg)
     rw [Bool.and_eq_true] at hvv
     obtain ⟨⟨a1, b1⟩, e1⟩ := Option.isSome_iff_exists.1 hvv.1
     obtain ⟨⟨a2, b2⟩, e2⟩ := Option.isSome_iff_exists.1 hvv.2
     have ha1 : a1 = (p : Int) := by rw [← hpv]; unfold pcV; rw [e1]; rfl
     have ha2 : a2 = (q : Int) := by rw [← hqv]; unfold scV; rw [e2]; rfl
     subst ha1
     subst ha2
     have HIN := Aside0.mk (fun W' (hb : Below wr.heap.size wr W') => impl_PartsOf.calls At ct T p b1 W' (Kd.F_now (Kd.F_below hFx hb)) hct e1)
     have HMI := Aside0.mk (fun W' (hb : Below wr.heap.size wr W') => impl_SpecialParts.calls At ct T q b2 W' (Kd.F_now (Kd.F_below hFx hb)) hct e2)
     clear e1 e2 hvv
     obtain ⟨tb, htb⟩ : ∃ tb, tb = jtOf pcV scV X (zeroT 4 L) i := ⟨_, rfl⟩
     obtain ⟨tn, htn⟩ : ∃ tn, tn = jtOf pcV scV X (zeroT 4 L) (i + 1) := ⟨_, rfl⟩
     rw [← htb, ← htn] at htab
     rw [← htb] at HS2 hpl hql
     have HTN := Aside0.mk htn
     have hnl : m6 = tb.length := (Kd.S_reads' HS2.out).1
     obtain ⟨gi, ci, hr1, hci, hgb, hr2, hput⟩ := S_put HS2.out p q hpl hql
     have hgi2 : gi < wo.heap.size := row_ok HS2.out p hpl (by omega) hr1
     obtain ⟨row, hrow⟩ : ∃ row, row = tb.getD p [] := ⟨_, rfl⟩
     rw [← hrow] at hr1 hr2 hci hql
     have hput2 : ∀ W', Below wr.heap.size wr W' → W'.frozen? ⟨gi, q, none⟩ = false ∧ Kd.S (Kd.slice 3 (Kd.int .i64)) 22 (W'.setCell ⟨gi, q, none⟩ (.int .i64 (IntKind.i64.wrap (rd row q + 1)))) w.heap.size (fun k => k < wo.heap.size) (.slice (some ⟨g6, 0, none⟩) m6 c6) tn := fun W' hb => ⟨(hput W' hb).1, by rw [htab, cntT, ← hrow, i64_w]; exact (hput W' hb).2 _⟩
     have HPUT := Aside0.mk hput2
     have HBC := Aside0.mk (Below.refl wr.heap.size wr)
     have hz1 : (p : Int) < (m6 : Int) := by omega
     have hz2 : (q : Int) < (row.length : Int) := by omega
     have hfr := (hput2 wr HBC.out).1
     have HGI := Aside0.mk hgi2
     have HGB := Aside0.mk hgb
     subst hA
     clear hput hput2 hF2 hFK hcell hFx hct hT hge hTg hpl hql hpv hqv htab hnl htb htn hrow hgi2 hgb hci HS2 hcl1
     go_wp2_with (first
      | (go_at_call 90; refine (HIN.out _ HBC.out).mono ?_; rintro e w3 ⟨rfl, hb⟩; have n_ := Aside0.mk (HBC.out.trans (hb.mono HBC.out.size)); clear HBC hb; have HBC := n_; clear n_)
      | (go_at_call 91; refine (HMI.out _ HBC.out).mono ?_; rintro e w4 ⟨rfl, hb⟩; have n_ := Aside0.mk (HBC.out.trans (hb.mono HBC.out.size)); clear HBC hb; have HBC := n_; clear n_; have hq2 := pw_cell_below HBC.out hr1; have hq3 := pw_cell_below HBC.out hr2; have hq4 := (HPUT.out _ HBC.out).1))
     have HTS := Aside0.mk ((HT2.out.then_below HBC.out).set ⟨gi, q, none⟩ (.inl HGI.out) (.int .i64 (wrap64 (rd row q + 1))))
     have HBS := Aside0.mk ((HB2.out.trans (HBC.out.mono HB2.out.size)).setCell (p := ⟨gi, q, none⟩) HGB.out (.int .i64 (wrap64 (rd row q + 1))))
     have hps_ := (HPUT.out _ HBC.out).2
     rw [i64_w] at hps_
     have HPS := Aside0.mk hps_
     clear hps_
     go_roundg (X.length - (i + 1))
     case measure => omega
     case rel => exact ⟨i + 1, by omega, by omega, by go_num, ⟨by rw [← HTN.out]; exact HPS.out⟩, HTS, HBS⟩
    ·have hzi : ¬ (i : Int) < (X.length : Int) := by omega
     have hie : i = X.length := by omega
     subst hie
     go_wp2
     go_ret2
     refine ⟨_, rfl, ?_, HB2.out⟩
     have h5 := Kd.S_mono HS2.out (ok' := fun _ => True) (fun _ _ => trivial)
     unfold spN
     rw [← HLL.out, ← HX.out]
     exact h5
theorem spP_4 : spP 4 7 = true := by decide +kernel
set_option maxHeartbeats 4000000 in
theorem impl_SpreadOfParts.calls_4 (w : World) : Calls Try.prog 37 #[.int .i64 4] w (RetTT w (spN 4 7 (mtA 4).length) true) := by
 have HM := Aside0.mk (fun W => show Calls Try.prog 18 #[.int .i64 4] W (RetTR W (mtA 4) true) from impl_MinusTable_calls 4 W)
 have hP := spP_4
 unfold spP at hP
 simp only [Bool.and_eq_true, decide_eq_true_eq] at hP
 obtain ⟨⟨hval, hjt⟩, hl⟩ := hP
 obtain ⟨L, hL⟩ : ∃ L, L = (mtA 4).length := ⟨_, rfl⟩
 rw [show ((mtA ((4 : Nat) : Int)).length) = L from hL.symm] at hl
 have HT := Aside0.mk (fun W => show Calls Try.prog 80 #[.int .i64 7, .int .i64 L, .func (.func 88) #[] #[]] W _ from table_zeroS 7 L (by omega) (by omega) W)
 have HD := Aside0.mk (fun W => impl_descending_calls 4 (by omega) (by omega) W)
 have HST := Aside0.mk (jtOk_step pcV scV (dsX (4 : Nat)) _ hjt)
 have HV := Aside0.mk (fun T (hT : T ∈ dsX (4 : Nat)) => List.all_eq_true.1 hval T hT)
 have hlen : (dsX 4).length ≤ 2000 := (ds_all (n := 4) (by omega) (by omega)).len
 have HLL := Aside0.mk hL
 rw [show ((mtA ((4 : Nat) : Int)).length) = L from hL.symm] at HST
 obtain ⟨X, hX⟩ : ∃ X, X = dsX 4 := ⟨_, rfl⟩
 have HX := Aside0.mk hX
 rw [show dsX ((4 : Nat) : Int) = X from hX.symm] at HST HV
 rw [← hX] at HD hlen
 obtain ⟨r, hr⟩ : ∃ r, r = mtA 4 := ⟨_, rfl⟩
 rw [← hr] at HM
 have HRL := Aside0.mk (show r.length = L by rw [hr, hL])
 clear hl hr hval hjt hL hX
 go_enter Try.func37, Try.ntmps37
 go_wp2_with (first
  | (go_at_call 18; refine (HM.out _).mono ?_; rintro e w1 ⟨v, rfl, hR, hb⟩; obtain ⟨A1, c1, rfl⟩ := Kd.R_slice hR; have HB := Aside0.mk hb; rw [HRL.out]; clear hR hb)
  | (go_at_call 80; refine (HT.out _).mono ?_; rintro e wo ⟨v, rfl, hS, hb⟩; obtain ⟨g6, c6, rfl, _, hg2, _⟩ := Kd.R_form (Kd.S_R hS) (by simp [zeroT, tableL]); obtain ⟨m6, hm6⟩ : ∃ m6, m6 = (zeroT 7 L).length := ⟨_, rfl⟩; rw [← hm6] at hS ⊢; have HS := Aside0.mk (Kd.S_mono (ok' := fun k => k < wo.heap.size) (Kd.S_lower (Kd.S_bound hS) HB.out.size) (fun k hk => hk.2.2.1)); have HBr := Aside0.mk (below_step HB.out hb); clear hS hb hg2 hm6)
  | (go_at_call 89; refine (HD.out _).mono ?_; rintro e w1d ⟨v, rfl, hS, hb⟩; obtain ⟨AX, cX, rfl⟩ := Kd.R_slice (Kd.S_R hS); have HFX := Aside0.mk (Kd.F_mono (ok' := fun k => wo.heap.size ≤ k) (tab_F (Kd.S_F (Kd.S_bound hS))) (fun k hk => hk.2.1)); have HB1 := Aside0.mk (below_step HBr.out hb); have HS1 := Aside0.mk (Kd.S_below HS.out hb); clear hS hb))
 go_loopg [36] X.length (fun gg s36 wr => ∃ i : Nat, i ≤ X.length ∧ X.length - i ≤ gg ∧ s36 = .int .i64 i ∧ Aside0 (Kd.S (Kd.slice 3 (Kd.int .i64)) 22 wr w.heap.size (fun k => k < wo.heap.size) (.slice (some ⟨g6, 0, none⟩) m6 c6) (jtOf pcV scV X (zeroT 7 L) i)) ∧ Aside0 (Touch w1d wr (fun k => k < wo.heap.size)) ∧ Aside0 (Below w.heap.size w wr))
 case atStart => exact ⟨0, Nat.zero_le _, Nat.le_refl _, rfl, ⟨by have h_ := HS1.out; cases hq : X <;> exact h_⟩, ⟨Touch.refl _ _⟩, HB1⟩
 case round =>
    clear HS1 HB1
    obtain ⟨i, hi, hgi, rfl, HS2, HT2, HB2⟩ := hrel
    by_cases hix : i < X.length
    ·skip
     have hzi : (i : Int) < (X.length : Int) := by omega
     obtain ⟨T, hT⟩ : ∃ T, T = X[i] := ⟨_, rfl⟩
     have hTg : X[i]? = some T := by rw [hT, List.getElem?_eq_getElem hix]
     obtain ⟨p, q, hpv, hqv, hpl, hql, htab⟩ := HST.out i T hTg
     have hF2 := HT2.out.F HFX.out (fun k hk h => by omega)
     obtain ⟨ad, cs, hA, hcl1, hFK, hcell, _⟩ := Kd.F_get hF2 ([] : List (List Int)) (i : Int) (by omega) (by omega)
     obtain ⟨At, ct, rfl, hct, hFx⟩ := Kd.FK_slice_open hFK
     have hx := hcell 0 _ rfl
     rw [Int.toNat_natCast, show (Kd.slice 22 (Kd.slice 3 (Kd.int .i64))).sz = 1 from rfl, Nat.mul_one, Nat.add_zero] at hx
     have hge : X.getD i [] = T := by rw [hT, List.getD_eq_getElem?_getD, List.getElem?_eq_getElem hix]; rfl
     rw [Int.toNat_natCast, hge] at hct hFx
     rw [hge] at hx
     have hvv := HV.out T (List.mem_of_getElem? hTg)
     rw [Bool.and_eq_true] at hvv
     obtain ⟨⟨a1, b1⟩, e1⟩ := Option.isSome_iff_exists.1 hvv.1
     obtain ⟨⟨a2, b2⟩, e2⟩ := Option.isSome_iff_exists.1 hvv.2
     have ha1 : a1 = (p : Int) := by rw [← hpv]; unfold pcV; rw [e1]; rfl
     have ha2 : a2 = (q : Int) := by rw [← hqv]; unfold scV; rw [e2]; rfl
     subst ha1
     subst ha2
     have HIN := Aside0.mk (fun W' (hb : Below wr.heap.size wr W') => impl_PartsOf.calls At ct T p b1 W' (Kd.F_now (Kd.F_below hFx hb)) hct e1)
     have HMI := Aside0.mk (fun W' (hb : Below wr.heap.size wr W') => impl_SpecialParts.calls At ct T q b2 W' (Kd.F_now (Kd.F_below hFx hb)) hct e2)
     clear e1 e2 hvv
     obtain ⟨tb, htb⟩ : ∃ tb, tb = jtOf pcV scV X (zeroT 7 L) i := ⟨_, rfl⟩
     obtain ⟨tn, htn⟩ : ∃ tn, tn = jtOf pcV scV X (zeroT 7 L) (i + 1) := ⟨_, rfl⟩
     rw [← htb, ← htn] at htab
     rw [← htb] at HS2 hpl hql
     have HTN := Aside0.mk htn
     have hnl : m6 = tb.length := (Kd.S_reads' HS2.out).1
     obtain ⟨gi, ci, hr1, hci, hgb, hr2, hput⟩ := S_put HS2.out p q hpl hql
     have hgi2 : gi < wo.heap.size := row_ok HS2.out p hpl (by omega) hr1
     obtain ⟨row, hrow⟩ : ∃ row, row = tb.getD p [] := ⟨_, rfl⟩
     rw [← hrow] at hr1 hr2 hci hql
     have hput2 : ∀ W', Below wr.heap.size wr W' → W'.frozen? ⟨gi, q, none⟩ = false ∧ Kd.S (Kd.slice 3 (Kd.int .i64)) 22 (W'.setCell ⟨gi, q, none⟩ (.int .i64 (IntKind.i64.wrap (rd row q + 1)))) w.heap.size (fun k => k < wo.heap.size) (.slice (some ⟨g6, 0, none⟩) m6 c6) tn := fun W' hb => ⟨(hput W' hb).1, by rw [htab, cntT, ← hrow, i64_w]; exact (hput W' hb).2 _⟩
     have HPUT := Aside0.mk hput2
     have HBC := Aside0.mk (Below.refl wr.heap.size wr)
     have hz1 : (p : Int) < (m6 : Int) := by omega
     have hz2 : (q : Int) < (row.length : Int) := by omega
     have hfr := (hput2 wr HBC.out).1
     have HGI := Aside0.mk hgi2
     have HGB := Aside0.mk hgb
     subst hA
     clear hput hput2 hF2 hFK hcell hFx hct hT hge hTg hpl hql hpv hqv htab hnl htb htn hrow hgi2 hgb hci HS2 hcl1
     go_wp2_with (first
      | (go_at_call 90; refine (HIN.out _ HBC.out).mono ?_; rintro e w3 ⟨rfl, hb⟩; have n_ := Aside0.mk (HBC.out.trans (hb.mono HBC.out.size)); clear HBC hb; have HBC := n_; clear n_)
      | (go_at_call 91; refine (HMI.out _ HBC.out).mono ?_; rintro e w4 ⟨rfl, hb⟩; have n_ := Aside0.mk (HBC.out.trans (hb.mono HBC.out.size)); clear HBC hb; have HBC := n_; clear n_; have hq2 := pw_cell_below HBC.out hr1; have hq3 := pw_cell_below HBC.out hr2; have hq4 := (HPUT.out _ HBC.out).1))
     have HTS := Aside0.mk ((HT2.out.then_below HBC.out).set ⟨gi, q, none⟩ (.inl HGI.out) (.int .i64 (wrap64 (rd row q + 1))))
     have HBS := Aside0.mk ((HB2.out.trans (HBC.out.mono HB2.out.size)).setCell (p := ⟨gi, q, none⟩) HGB.out (.int .i64 (wrap64 (rd row q + 1))))
     have hps_ := (HPUT.out _ HBC.out).2
     rw [i64_w] at hps_
     have HPS := Aside0.mk hps_
     clear hps_
     go_roundg (X.length - (i + 1))
     case measure => omega
     case rel => exact ⟨i + 1, by omega, by omega, by go_num, ⟨by rw [← HTN.out]; exact HPS.out⟩, HTS, HBS⟩
    ·have hzi : ¬ (i : Int) < (X.length : Int) := by omega
     have hie : i = X.length := by omega
     subst hie
     go_wp2
     go_ret2
     refine ⟨_, rfl, ?_, HB2.out⟩
     have h5 := Kd.S_mono HS2.out (ok' := fun _ => True) (fun _ _ => trivial)
     unfold spN
     rw [← HLL.out, ← HX.out]
     exact h5
def spA (n : Int) : List (List Int) := if inB n 1 4 = true then spN n (n.toNat * (n.toNat - 1) / 2 + 1) (mtA n).length else []
theorem spA_out {n : Int} (h : inB n 1 4 = false) : spA n = [] := by unfold spA; rw [h]; rfl
set_option maxHeartbeats 2000000 in
theorem impl_SpreadOfParts_calls (n : Int) (w : World) : Calls Try.prog 37 #[.int .i64 n] w (RetTT w (spA n) (inB n 1 4)) := by
 cases hi : inB n 1 4 with
 | false =>
  have HM := Aside0.mk (fun W => impl_MinusTable_calls n W)
  rw [hi, mtA_out hi] at HM
  rw [spA_out hi]
  clear hi
  go_enter Try.func37, Try.ntmps37
  go_wp2_with (go_at_call 18; refine (HM.out _).mono ?_; rintro e w1 ⟨v, rfl, hR, hb⟩; have HB := Aside0.mk hb; clear hR hb)
  go_ret2
  exact ⟨_, rfl, Kd.S_nil _ _ _ _ _, HB.out⟩
 | true =>
  rcases one_four hi with rfl | rfl | rfl | rfl
  ·exact impl_SpreadOfParts.calls_1 w
  ·exact impl_SpreadOfParts.calls_2 w
  ·exact impl_SpreadOfParts.calls_3 w
  ·exact impl_SpreadOfParts.calls_4 w
end Go.Proofs.Ytdcdkckpmkfjdaa.L

namespace Go.Proofs.Ytdcdkckpmkfjdaa.P
open Go.RowKit Go.Proofs.YtdcdkckpmkfjdaaW.PrintWords Go.Proofs.YtdcdkckpmkfjdaaW.PrintLast Go.Proofs.YtdcdkckpmkfjdaaW.PrintMore
attribute [local go_sem] max2_int min2_int max_two min_two max_three min_three max_four min_four   -- for this text's walks alone
set_option linter.unusedVariables false
set_option linter.unusedSimpArgs false

def spec_dpParts.l0 : Nat → Int → List (List Int) → Int → Int → Option (Int)
 | 0, _, _, _, _ => none
 | k + 1, x3, x6, x7, x8 => if x8 < x7 then (if 0 ≤ x8 then (if x8 < (x6.length : Int) then (spec_dpParts.l0 k (wrap64 (x3 + ((rd_L1 x6 x8).length : Int))) x6 x7 (wrap64 (x8 + 1))) else (none)) else (none)) else (some x3)
def spec_dpParts.f (k : Nat) (l0 : List (List Int)) : Option (Int) := spec_dpParts.l0 k 0 l0 (l0.length : Int) 0
set_option maxHeartbeats 8000000 in
set_option maxRecDepth 100000 in
theorem spec_dpParts.calls (k : Nat) (A0 : Option Addr) (c0 : Nat) (l0 : List (List Int)) (r : Int) (w : World) (hr0 : Kd.C (Kd.slice 3 (Kd.int .i64)) w A0 l0.length l0) (hc0 : l0.length ≤ c0) (h : spec_dpParts.f k l0 = some r) :
  Calls Try.prog 86 #[.slice A0 l0.length c0] w fun e w' => e = .returned (.int .i64 r) ∧ Drawn0 w w' := by
 have HR0 := Aside0.mk hr0
 have HC0 := Aside0.mk hc0
 clear hr0 hc0
 have H : (spec_dpParts.l0 k 0 l0 (l0.length : Int) 0) = some r := h
 clear h
 have H' := Aside0.mk H
 clear H
 go_enter Try.func86, Try.ntmps86
 go_wp2
 go_loopg [3, 8] k (fun kq v3 v8 w' => ∃ (x3_1 : Int) (x8_1 : Int), v3 = .int .i64 x3_1 ∧ v8 = .int .i64 x8_1 ∧ Aside0 (spec_dpParts.l0 kq x3_1 l0 (l0.length : Int) x8_1 = some r) ∧ Aside0 (kq ≤ k) ∧ Drawn0 w w')
 case atStart => exact ⟨(0), (0), (by first | rfl | (simp; done) | (simp [*]; done)), (by first | rfl | (simp; done) | (simp [*]; done)), H', ⟨Nat.le_refl _⟩, by repeat (first | exact Drawn0.refl _ | apply Drawn0.step)⟩
 case round =>
  clear H'
  obtain ⟨x3_1, x8_1, rfl, rfl, HA, HK1, ⟨m1, rfl⟩⟩ := hrel
  cases gk with
  | zero => exact absurd HA.out (by simp [spec_dpParts.l0])
  | succ k1 =>
   have H := HA.out
   clear HA
   simp only [spec_dpParts.l0] at H
   by_cases c2 : x8_1 < (l0.length : Int)
   ·rw [if_pos c2] at H
    have c2b0 : decide (x8_1 < (l0.length : Int)) = true := decide_eq_true c2
    clear c2
    by_cases c3 : 0 ≤ x8_1
    ·rw [if_pos c3] at H
     have c3b0 : decide (0 ≤ x8_1) = true := decide_eq_true c3
     clear c3
     by_cases c4 : x8_1 < (l0.length : Int)
     ·rw [if_pos c4] at H
      have c4b0 : decide (x8_1 < (l0.length : Int)) = true := decide_eq_true c4
      clear c4
      have H' := Aside0.mk H
      clear H
      have p422 : 0 ≤ (x8_1 : Int) := of_decide_eq_true (by first | (with_reducible assumption) | assumption)
      have q422 : x8_1 < (l0.length : Int) := of_decide_eq_true (by first | (with_reducible assumption) | assumption)
      obtain ⟨ad422, A422_0, c422_0, e422, hx422_0, hl422_0, hi422_0⟩ := at_L1 HR0.out x8_1 p422 q422
      cases e422
      have HR422_0 := Aside0.mk hi422_0
      have HC422_0 := Aside0.mk hl422_0
      clear hi422_0 hl422_0
      replace p422 := eq_true p422
      replace q422 := eq_true q422
      go_wp2
      go_roundg k1
      case measure => have := HK1.out; omega
      case rel => exact ⟨(wrap64 (x3_1 + ((rd_L1 l0 x8_1).length : Int))), (wrap64 (x8_1 + 1)), (by first | rfl | (simp; done) | (simp [*]; done)), (by first | rfl | (simp; done) | (simp [*]; done)), H', ⟨by have := HK1.out; omega⟩, by repeat (first | exact Drawn0.refl _ | apply Drawn0.step)⟩
     ·rw [if_neg c4] at H
      exact absurd H (by simp)
    ·rw [if_neg c3] at H
     exact absurd H (by simp)
   ·rw [if_neg c2] at H
    have c2b0 : decide (x8_1 < (l0.length : Int)) = false := decide_eq_false c2
    clear c2
    obtain rfl := Option.some.inj H
    go_wp2
    go_ret
    exact ⟨by first | rfl | (simp; done) | (simp [*]; done), by repeat (first | exact Drawn0.refl _ | apply Drawn0.step)⟩

end Go.Proofs.Ytdcdkckpmkfjdaa.P
