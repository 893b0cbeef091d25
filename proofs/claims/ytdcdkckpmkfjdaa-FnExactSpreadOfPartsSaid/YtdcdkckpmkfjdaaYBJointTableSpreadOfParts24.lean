/- Texts of one chain, in build order. -/
import Derived.Test.YtdcdkckpmkfjdaaYBJointTableSpreadOfParts23
import Derived.Test.YtdcdkckpmkfjdaaWMore
namespace Go.Proofs.Ytdcdkckpmkfjdaa.L
open Go.RowKit Go.Proofs.Ytdcdkckpmkfjdaa Go.Proofs.Ytdcdkckpmkfjdaa.P Go.Proofs.YtdcdkckpmkfjdaaW.PrintWords Go.Proofs.YtdcdkckpmkfjdaaW.PrintLast Go.Proofs.YtdcdkckpmkfjdaaW.PrintMore
set_option linter.unusedVariables false
set_option linter.unusedSimpArgs false
set_option maxRecDepth 100000

def jsP (n rows : Nat) : Bool := decide (wgX n = esX n) && ((esX n).all fun T => decide (spec_weInversions.f 300 T = some (inV T)) && decide (spec_sgMinus.f 300 T = some (moV T))) && decide (spec_MinusTable.f 1000 (n : Int) = some (mtA n, true)) && decide ((esX n).length ≤ 1000)
theorem zeroT_snoc (p L : Nat) : zeroT p L ++ [List.replicate L 0] = zeroT (p + 1) L := by
 unfold zeroT tableL
 rw [List.range_succ, List.map_append, List.map_cons, List.map_nil]
 congr 2
 exact List.ext_getElem (by simp [rowL]) (by intro i h1 h2; simp [rowL])
theorem info_rowsJ : (Try.prog.info? 22).map (fun i => (i.zero, i.size, i.bytes)) = some (some (.slice none 0 0), 1, 24) := by kernel_rfl
theorem jsP_1 : jsP 1 1 = true := by decide +kernel
set_option maxHeartbeats 8000000 in
theorem spec_JointTable.calls_1 (w : World) : Calls Try.prog 31 #[.int .i64 1] w (RetTT w (jtN 1 1 (mtA 1).length) true) := by
 have hP := jsP_1
 have hJ := jtP_1
 unfold jsP at hP
 unfold jtP at hJ
 simp only [Bool.and_eq_true, decide_eq_true_eq] at hP hJ
 obtain ⟨⟨⟨hwg, hval⟩, hmt⟩, hlen⟩ := hP
 obtain ⟨⟨_, hjt⟩, hLL⟩ := hJ
 have HS := Aside0.mk (fun W => spec_weSide.calls 1 true W (by decide +kernel))
 have HM := Aside0.mk (fun W => show Calls Try.prog 17 #[.int .i64 1] W _ from spec_MinusTable.calls 1000 1 (mtA 1) true W hmt)
 have HA := Aside0.mk (fun W => show Calls Try.prog 58 #[.int .i64 1] W _ from spec_weAll.calls 1 (esX 1) W (by rw [← hwg]; rfl))
 have HV := Aside0.mk (fun T (hT : T ∈ esX 1) => List.all_eq_true.1 hval T hT)
 have HST := Aside0.mk (jtOk_step inV moV (esX 1) _ hjt)
 obtain ⟨L, hL⟩ : ∃ L, L = (mtA 1).length := ⟨_, rfl⟩
 have HLL := Aside0.mk hL
 rw [show ((mtA ((1 : Nat) : Int)).length) = L from hL.symm] at HST hLL
 obtain ⟨X, hX⟩ : ∃ X, X = esX 1 := ⟨_, rfl⟩
 have HX := Aside0.mk hX
 rw [← hX] at HA HV HST hlen
 obtain ⟨r, hr⟩ : ∃ r, r = mtA 1 := ⟨_, rfl⟩
 rw [← hr] at HM
 have HRL := Aside0.mk (show r.length = L by rw [hr, hL])
 have mk1 : ∀ W : World, Sem.run Try.prog (Instr.makeSlice 22 (.int .i64 L) (.int .i64 L)) W = Result.ok (Value.slice (some ⟨W.heap.size, 0, none⟩) L L) (W.alloc (.cells (madeCells #[.int .i64 0] L) 3)) := fun W => run_make_row' (P := Try.prog) 22 3 (.int .i64 0) 8 Try.underlying22 info_ints rfl .i64 .i64 L (by omega) (by omega) W
 have HLB := Aside0.mk hLL
 clear hL hX hr hval hmt hwg hjt hLL
 go_enter Try.func31, Try.ntmps31
 go_wp2_with (first
  | (go_at_call 57; refine (HS.out _).mono ?_; rintro e w0 ⟨rfl, hd⟩; have HB := Aside0.mk hd.below; clear hd)
  | (go_at_call 17; refine (HM.out _).mono ?_; rintro e w1 ⟨v, rfl, hR, hb⟩; obtain ⟨A1, c1, rfl⟩ := Kd.R_slice hR; have HB1 := Aside0.mk (below_step HB.out hb); rw [HRL.out]; clear hR hb))
 go_loopg [6, 7] 1 (fun gg v6 v7 wr => ∃ p : Nat, p ≤ 1 ∧ 1 - p ≤ gg ∧ v7 = .int .i64 p ∧ Aside0 (Kd.S (Kd.slice 3 (Kd.int .i64)) 22 wr w.heap.size (fun _ => True) v6 (zeroT p L)) ∧ Aside0 (Below w.heap.size w wr))
 case atStart => exact ⟨0, Nat.zero_le _, Nat.le_refl _, rfl, ⟨Kd.S_nil _ _ _ _ _⟩, HB1⟩
 case round =>
  clear HB1 HB
  obtain ⟨p, hp, hg, rfl, HSP, HB⟩ := hrel
  by_cases hlt : p < 1
  ·have hp0 : p = 0 := by omega
   subst hp0
   have hz : (0 : Int) ≤ 0 := by omega
   have hld : decide ((0 : Int) ≤ 0) = true := decide_eq_true hz
   obtain ⟨t9, ht9⟩ : ∃ t9, t9 = zeroT 0 L ++ [List.replicate L 0] := ⟨_, rfl⟩
   have HT9 := Aside0.mk ht9
   have HZL := Aside0.mk (show (zeroT 0 L).length = 0 by simp [zeroT, tableL])
   obtain ⟨A6, c6, rfl⟩ := Kd.R_slice (Kd.S_R HSP.out)
   obtain ⟨wm, hwm⟩ : ∃ wm, wm = wr.alloc (.cells (madeCells #[.int .i64 0] L) 3) := ⟨_, rfl⟩
   have hI : intBlk wm wr.heap.size (List.replicate L 0) := by unfold intBlk; rw [← madeInts, hwm]; exact blk_new_at rfl
   have HR := Aside0.mk (intBlk_R (ok := fun k => k = wr.heap.size) hI HB.out.size rfl (by rw [List.length_replicate]; have := HLB.out; omega))
   have HSM := Aside0.mk (show Kd.S (Kd.slice 3 (Kd.int .i64)) 22 wm w.heap.size (fun k => True ∧ ¬ k = wr.heap.size) _ (zeroT 0 L) from by rw [hwm]; exact Kd.S_mono (Kd.S_below (Kd.S_bound HSP.out) (below_alloc (Below.refl _ _) _)) (fun k hk => ⟨trivial, by have := hk.2.2.1; omega⟩))
   have HBM := Aside0.mk (show Below w.heap.size w wm from by rw [hwm]; exact below_alloc HB.out _)
   have HNO := Aside0.mk (show ∀ k, k = wr.heap.size → True ∧ some k ≠ (Value.slice A6 (zeroT 0 L).length c6).ownBlock from fun k hk => ⟨trivial, fun e => by have := Kd.S_lt HSP.out k e.symm; omega⟩)
   have HSZM := Aside0.mk (show wm.heap.size = wr.heap.size + 1 by rw [hwm]; simp)
   have HWM := Aside0.mk hwm
   clear hI hwm ht9
   go_wp2_with ((with_reducible refine gate_builtin (b := .append) (xs := #[.tmp 27, .tmp 31]) rfl ?_); at_builtin; rw [← HWM.out]; refine Kd.S_append (Kd.slice 3 (Kd.int .i64)) (w0 := w) w.heap.size rfl (.tmp 27) (.tmp 31) 36 22 (.slice none 0 0) 24 rfl Try.underlying36 info_rowsJ rfl (by decide) (by omega) (.slice A6 (zeroT 0 L).length c6) (zeroT 0 L) (List.replicate L 0) [.slice (some ⟨wr.heap.size, 0, none⟩) L L] (fun _ => True) (fun k => k = wr.heap.size) rfl (by rw [HSZM.out]; rfl) ?aP HNO.out (fun _ _ => trivial) HSM.out HBM.out HBM.out.size (by rw [HZL.out]; omega) ?_; (case aP => (have h_ := HR.out; rw [List.length_replicate] at h_; exact Kd.M_row h_)); intro v8 w8 ho hb hg8 hat; rw [← HT9.out] at ho; have HO8 := Aside0.mk ho; have HB8 := Aside0.mk hb; clear ho hb hg8 hat)
   go_roundg (1 - (0 + 1))
   case measure => omega
   case rel => exact ⟨0 + 1, by omega, by omega, by go_num, ⟨by rw [← zeroT_snoc, ← HT9.out]; exact HO8.out⟩, HB8⟩
  ·have hz : ¬ (p : Int) ≤ 0 := by omega
   have hld : decide ((p : Int) ≤ 0) = false := decide_eq_false hz
   have hpe : p = 1 := by omega
   subst hpe
   obtain ⟨g6, c6, rfl, _, _, _⟩ := Kd.R_form (Kd.S_R HSP.out) (by simp [zeroT, tableL])
   have HSB := Aside0.mk (Kd.S_mono (ok' := fun k => k < wr.heap.size) (Kd.S_bound HSP.out) (fun k hk => hk.2.2.1))
   obtain ⟨m6, hm6⟩ : ∃ m6, m6 = (zeroT 1 L).length := ⟨_, rfl⟩
   rw [← hm6] at HSB ⊢
   clear hm6
   go_wp2_with (go_at_call 58; refine (HA.out _).mono ?_; rintro e w1 ⟨v, rfl, hN, hb⟩; obtain ⟨AX, cX, rfl⟩ := Kd.N_slice hN; have HFX := Aside0.mk (Kd.N_F hN); have HB1 := Aside0.mk (below_step HB.out hb); have HS1 := Aside0.mk (Kd.S_below HSB.out hb); clear hN hb)
   obtain ⟨wo, rfl⟩ : ∃ wo : World, wo = wr := ⟨_, rfl⟩
   clear HSP HSB
   have hlx := hlen
   go_loopg [36] X.length (fun gg s36 wr => ∃ i : Nat, i ≤ X.length ∧ X.length - i ≤ gg ∧ s36 = .int .i64 i ∧ Aside0 (Kd.S (Kd.slice 3 (Kd.int .i64)) 22 wr w.heap.size (fun k => k < wo.heap.size) (.slice (some ⟨g6, 0, none⟩) m6 c6) (jtOf inV moV X (zeroT 1 L) i)) ∧ Aside0 (Touch w1 wr (fun k => k < wo.heap.size)) ∧ Aside0 (Below w.heap.size w wr))
   case atStart => exact ⟨0, Nat.zero_le _, Nat.le_refl _, rfl, ⟨by have h_ := HS1.out; cases hq : X <;> exact h_⟩, ⟨Touch.refl _ _⟩, HB1⟩
   case round =>
    clear HS1 HB1
    obtain ⟨i, hi, hgi, rfl, HS2, HT2, HB2⟩ := hrel
    by_cases hix : i < X.length
    ·have hzi : (i : Int) < (X.length : Int) := by omega
     obtain ⟨T, hT⟩ : ∃ T, T = X[i] := ⟨_, rfl⟩
     have hTg : X[i]? = some T := by rw [hT, List.getElem?_eq_getElem hix]
     obtain ⟨p, q, hpv, hqv, hpl, hql, htab⟩ := HST.out i T hTg
     have hF2 := HT2.out.F HFX.out (fun k hk h => by omega)
     obtain ⟨ad, cs, hA, hcl1, hFK, hcell, _⟩ := Kd.F_get hF2 ([] : List (List Int)) (i : Int) (by omega) (by omega)
     obtain ⟨At, ct, rfl, hct, hFx⟩ := Kd.FK_slice_open hFK
     have hx := hcell 0 _ rfl
     rw [Int.toNat_natCast, show (Kd.slice 22 (Kd.slice 3 (Kd.int .i64))).sz = 1 from rfl, Nat.mul_one, Nat.add_zero] at hx
     have hge : X.getD i [] = T := by rw [hT, List.getD_eq_getElem?_getD, List.getElem?_eq_getElem hix]; rfl
     rw [Int.toNat_natCast, hge] at hct hFx
     rw [hge] at hx
     have hvv := HV.out T (List.mem_of_getElem? hTg)
     simp only [Bool.and_eq_true, decide_eq_true_eq] at hvv
     have HIN := Aside0.mk (fun W' (hb : Below wr.heap.size wr W') => hpv ▸ spec_weInversions.calls 300 At ct T (inV T) W' (Kd.F_now (Kd.F_below hFx hb)) hct hvv.1)
     have HMI := Aside0.mk (fun W' (hb : Below wr.heap.size wr W') => hqv ▸ spec_sgMinus.calls 300 At ct T (moV T) W' (Kd.F_now (Kd.F_below hFx hb)) hct hvv.2)
     obtain ⟨tb, htb⟩ : ∃ tb, tb = jtOf inV moV X (zeroT 1 L) i := ⟨_, rfl⟩
     obtain ⟨tn, htn⟩ : ∃ tn, tn = jtOf inV moV X (zeroT 1 L) (i + 1) := ⟨_, rfl⟩
     rw [← htb, ← htn] at htab
     rw [← htb] at HS2 hpl hql
     have HTN := Aside0.mk htn
     have hnl : m6 = tb.length := (Kd.S_reads' HS2.out).1
     obtain ⟨gi, ci, hr1, hci, hgb, hr2, hput⟩ := S_put HS2.out p q hpl hql
     have hgi2 : gi < wo.heap.size := row_ok HS2.out p hpl (by omega) hr1
     obtain ⟨row, hrow⟩ : ∃ row, row = tb.getD p [] := ⟨_, rfl⟩
     rw [← hrow] at hr1 hr2 hci hql
     have hput2 : ∀ W', Below wr.heap.size wr W' → W'.frozen? ⟨gi, q, none⟩ = false ∧ Kd.S (Kd.slice 3 (Kd.int .i64)) 22 (W'.setCell ⟨gi, q, none⟩ (.int .i64 (IntKind.i64.wrap (rd row q + 1)))) w.heap.size (fun k => k < wo.heap.size) (.slice (some ⟨g6, 0, none⟩) m6 c6) tn := fun W' hb => ⟨(hput W' hb).1, by rw [htab, cntT, ← hrow, i64_w]; exact (hput W' hb).2 _⟩
     have HPUT := Aside0.mk hput2
     have HBC := Aside0.mk (Below.refl wr.heap.size wr)
     have hz1 : (p : Int) < (m6 : Int) := by omega
     have hz2 : (q : Int) < (row.length : Int) := by omega
     have hfr := (hput2 wr HBC.out).1
     have HGI := Aside0.mk hgi2
     have HGB := Aside0.mk hgb
     subst hA
     clear hput hput2 hF2 hFK hcell hFx hct hT hge hTg hpl hql hpv hqv hvv htab hnl htb htn hrow hgi2 hgb hci HS2 hcl1
     go_wp2
     go_region_law (first
      | (go_simp; go_at_call 64; (refine (HIN.out _ ?hbY).mono ?_); (case hbY => exact (by repeat (first | exact HBC.out | refine below_drew ?_))); rintro e w3 ⟨rfl, hb⟩; have n_ := fun h => Aside0.mk (Below.trans (B := wr.heap.size) h (hb.mono (Below.size h))); have m_ := n_ (by repeat (first | exact HBC.out | refine below_drew ?_)); clear n_ HBC; have HBC := m_; clear m_; have hq2 := pw_cell_below HBC.out hr1; have hq3 := pw_cell_below HBC.out hr2; have hq4 := (HPUT.out _ HBC.out).1; clear hb)
      | (go_simp; go_at_call 60; (refine (HMI.out _ ?hbZ).mono ?_); (case hbZ => exact (by repeat (first | exact HBC.out | refine below_drew ?_))); rintro e w4 ⟨rfl, hd⟩; have hb := hd.below; clear hd; have n_ := fun h => Aside0.mk (Below.trans (B := wr.heap.size) h (hb.mono (Below.size h))); have m_ := n_ (by repeat (first | exact HBC.out | refine below_drew ?_)); clear n_ HBC; have HBC := m_; clear m_; (try clear hq2 hq3 hq4); have hq2 := pw_cell_below HBC.out hr1; have hq3 := pw_cell_below HBC.out hr2; have hq4 := (HPUT.out _ HBC.out).1; clear hb))
     all_goals
      have HTS := Aside0.mk ((HT2.out.then_below HBC.out).set ⟨gi, q, none⟩ (.inl HGI.out) (.int .i64 (wrap64 (rd row q + 1))))
      have HBS := Aside0.mk ((HB2.out.trans (HBC.out.mono HB2.out.size)).setCell (p := ⟨gi, q, none⟩) HGB.out (.int .i64 (wrap64 (rd row q + 1))))
      have hps_ := (HPUT.out _ HBC.out).2
      rw [i64_w] at hps_
      have HPS := Aside0.mk hps_
      clear hps_
      go_wp2
      go_roundg (X.length - (i + 1))
      case measure => omega
      case rel => exact ⟨i + 1, by omega, by omega, by go_num, ⟨by rw [← HTN.out]; exact HPS.out⟩, HTS, HBS⟩
    ·have hzi : ¬ (i : Int) < (X.length : Int) := by omega
     have hie : i = X.length := by omega
     subst hie
     go_wp2
     go_ret2
     refine ⟨_, rfl, ?_, HB2.out⟩
     have h5 := Kd.S_mono HS2.out (ok' := fun _ => True) (fun _ _ => trivial)
     unfold jtN
     rw [← HLL.out, ← HX.out]
     exact h5
theorem jsP_2 : jsP 2 2 = true := by decide +kernel
set_option maxHeartbeats 8000000 in
theorem spec_JointTable.calls_2 (w : World) : Calls Try.prog 31 #[.int .i64 2] w (RetTT w (jtN 2 2 (mtA 2).length) true) := by
 have hP := jsP_2
 have hJ := jtP_2
 unfold jsP at hP
 unfold jtP at hJ
 simp only [Bool.and_eq_true, decide_eq_true_eq] at hP hJ
 obtain ⟨⟨⟨hwg, hval⟩, hmt⟩, hlen⟩ := hP
 obtain ⟨⟨_, hjt⟩, hLL⟩ := hJ
 have HS := Aside0.mk (fun W => spec_weSide.calls 2 true W (by decide +kernel))
 have HM := Aside0.mk (fun W => show Calls Try.prog 17 #[.int .i64 2] W _ from spec_MinusTable.calls 1000 2 (mtA 2) true W hmt)
 have HA := Aside0.mk (fun W => show Calls Try.prog 58 #[.int .i64 2] W _ from spec_weAll.calls 2 (esX 2) W (by rw [← hwg]; rfl))
 have HV := Aside0.mk (fun T (hT : T ∈ esX 2) => List.all_eq_true.1 hval T hT)
 have HST := Aside0.mk (jtOk_step inV moV (esX 2) _ hjt)
 obtain ⟨L, hL⟩ : ∃ L, L = (mtA 2).length := ⟨_, rfl⟩
 have HLL := Aside0.mk hL
 rw [show ((mtA ((2 : Nat) : Int)).length) = L from hL.symm] at HST hLL
 obtain ⟨X, hX⟩ : ∃ X, X = esX 2 := ⟨_, rfl⟩
 have HX := Aside0.mk hX
 rw [← hX] at HA HV HST hlen
 obtain ⟨r, hr⟩ : ∃ r, r = mtA 2 := ⟨_, rfl⟩
 rw [← hr] at HM
 have HRL := Aside0.mk (show r.length = L by rw [hr, hL])
 have mk1 : ∀ W : World, Sem.run Try.prog (Instr.makeSlice 22 (.int .i64 L) (.int .i64 L)) W = Result.ok (Value.slice (some ⟨W.heap.size, 0, none⟩) L L) (W.alloc (.cells (madeCells #[.int .i64 0] L) 3)) := fun W => run_make_row' (P := Try.prog) 22 3 (.int .i64 0) 8 Try.underlying22 info_ints rfl .i64 .i64 L (by omega) (by omega) W
 have HLB := Aside0.mk hLL
 clear hL hX hr hval hmt hwg hjt hLL
 go_enter Try.func31, Try.ntmps31
 go_wp2_with (first
  | (go_at_call 57; refine (HS.out _).mono ?_; rintro e w0 ⟨rfl, hd⟩; have HB := Aside0.mk hd.below; clear hd)
  | (go_at_call 17; refine (HM.out _).mono ?_; rintro e w1 ⟨v, rfl, hR, hb⟩; obtain ⟨A1, c1, rfl⟩ := Kd.R_slice hR; have HB1 := Aside0.mk (below_step HB.out hb); rw [HRL.out]; clear hR hb))
 go_loopg [6, 7] 2 (fun gg v6 v7 wr => ∃ p : Nat, p ≤ 2 ∧ 2 - p ≤ gg ∧ v7 = .int .i64 p ∧ Aside0 (Kd.S (Kd.slice 3 (Kd.int .i64)) 22 wr w.heap.size (fun _ => True) v6 (zeroT p L)) ∧ Aside0 (Below w.heap.size w wr))
 case atStart => exact ⟨0, Nat.zero_le _, Nat.le_refl _, rfl, ⟨Kd.S_nil _ _ _ _ _⟩, HB1⟩
 case round =>
  clear HB1 HB
  obtain ⟨p, hp, hg, rfl, HSP, HB⟩ := hrel
  by_cases hlt : p < 2
  ·skip
   have hz : (p : Int) ≤ 1 := by omega
   have hld : decide ((p : Int) ≤ 1) = true := decide_eq_true hz
   obtain ⟨t9, ht9⟩ : ∃ t9, t9 = zeroT p L ++ [List.replicate L 0] := ⟨_, rfl⟩
   have HT9 := Aside0.mk ht9
   have HZL := Aside0.mk (show (zeroT p L).length = p by simp [zeroT, tableL])
   obtain ⟨A6, c6, rfl⟩ := Kd.R_slice (Kd.S_R HSP.out)
   obtain ⟨wm, hwm⟩ : ∃ wm, wm = wr.alloc (.cells (madeCells #[.int .i64 0] L) 3) := ⟨_, rfl⟩
   have hI : intBlk wm wr.heap.size (List.replicate L 0) := by unfold intBlk; rw [← madeInts, hwm]; exact blk_new_at rfl
   have HR := Aside0.mk (intBlk_R (ok := fun k => k = wr.heap.size) hI HB.out.size rfl (by rw [List.length_replicate]; have := HLB.out; omega))
   have HSM := Aside0.mk (show Kd.S (Kd.slice 3 (Kd.int .i64)) 22 wm w.heap.size (fun k => True ∧ ¬ k = wr.heap.size) _ (zeroT p L) from by rw [hwm]; exact Kd.S_mono (Kd.S_below (Kd.S_bound HSP.out) (below_alloc (Below.refl _ _) _)) (fun k hk => ⟨trivial, by have := hk.2.2.1; omega⟩))
   have HBM := Aside0.mk (show Below w.heap.size w wm from by rw [hwm]; exact below_alloc HB.out _)
   have HNO := Aside0.mk (show ∀ k, k = wr.heap.size → True ∧ some k ≠ (Value.slice A6 (zeroT p L).length c6).ownBlock from fun k hk => ⟨trivial, fun e => by have := Kd.S_lt HSP.out k e.symm; omega⟩)
   have HSZM := Aside0.mk (show wm.heap.size = wr.heap.size + 1 by rw [hwm]; simp)
   have HWM := Aside0.mk hwm
   clear hI hwm ht9
   go_wp2_with ((with_reducible refine gate_builtin (b := .append) (xs := #[.tmp 27, .tmp 31]) rfl ?_); at_builtin; rw [← HWM.out]; refine Kd.S_append (Kd.slice 3 (Kd.int .i64)) (w0 := w) w.heap.size rfl (.tmp 27) (.tmp 31) 36 22 (.slice none 0 0) 24 rfl Try.underlying36 info_rowsJ rfl (by decide) (by omega) (.slice A6 (zeroT p L).length c6) (zeroT p L) (List.replicate L 0) [.slice (some ⟨wr.heap.size, 0, none⟩) L L] (fun _ => True) (fun k => k = wr.heap.size) rfl (by rw [HSZM.out]; rfl) ?aP HNO.out (fun _ _ => trivial) HSM.out HBM.out HBM.out.size (by rw [HZL.out]; omega) ?_; (case aP => (have h_ := HR.out; rw [List.length_replicate] at h_; exact Kd.M_row h_)); intro v8 w8 ho hb hg8 hat; rw [← HT9.out] at ho; have HO8 := Aside0.mk ho; have HB8 := Aside0.mk hb; clear ho hb hg8 hat)
   go_roundg (2 - (p + 1))
   case measure => omega
   case rel => exact ⟨p + 1, by omega, by omega, by go_num, ⟨by rw [← zeroT_snoc, ← HT9.out]; exact HO8.out⟩, HB8⟩
  ·have hz : ¬ (p : Int) ≤ 1 := by omega
   have hld : decide ((p : Int) ≤ 1) = false := decide_eq_false hz
   have hpe : p = 2 := by omega
   subst hpe
   obtain ⟨g6, c6, rfl, _, _, _⟩ := Kd.R_form (Kd.S_R HSP.out) (by simp [zeroT, tableL])
   have HSB := Aside0.mk (Kd.S_mono (ok' := fun k => k < wr.heap.size) (Kd.S_bound HSP.out) (fun k hk => hk.2.2.1))
   obtain ⟨m6, hm6⟩ : ∃ m6, m6 = (zeroT 2 L).length := ⟨_, rfl⟩
   rw [← hm6] at HSB ⊢
   clear hm6
   go_wp2_with (go_at_call 58; refine (HA.out _).mono ?_; rintro e w1 ⟨v, rfl, hN, hb⟩; obtain ⟨AX, cX, rfl⟩ := Kd.N_slice hN; have HFX := Aside0.mk (Kd.N_F hN); have HB1 := Aside0.mk (below_step HB.out hb); have HS1 := Aside0.mk (Kd.S_below HSB.out hb); clear hN hb)
   obtain ⟨wo, rfl⟩ : ∃ wo : World, wo = wr := ⟨_, rfl⟩
   clear HSP HSB
   have hlx := hlen
   go_loopg [36] X.length (fun gg s36 wr => ∃ i : Nat, i ≤ X.length ∧ X.length - i ≤ gg ∧ s36 = .int .i64 i ∧ Aside0 (Kd.S (Kd.slice 3 (Kd.int .i64)) 22 wr w.heap.size (fun k => k < wo.heap.size) (.slice (some ⟨g6, 0, none⟩) m6 c6) (jtOf inV moV X (zeroT 2 L) i)) ∧ Aside0 (Touch w1 wr (fun k => k < wo.heap.size)) ∧ Aside0 (Below w.heap.size w wr))
   case atStart => exact ⟨0, Nat.zero_le _, Nat.le_refl _, rfl, ⟨by have h_ := HS1.out; cases hq : X <;> exact h_⟩, ⟨Touch.refl _ _⟩, HB1⟩
   case round =>
    clear HS1 HB1
    obtain ⟨i, hi, hgi, rfl, HS2, HT2, HB2⟩ := hrel
    by_cases hix : i < X.length
    ·have hzi : (i : Int) < (X.length : Int) := by omega
     obtain ⟨T, hT⟩ : ∃ T, T = X[i] := ⟨_, rfl⟩
     have hTg : X[i]? = some T := by rw [hT, List.getElem?_eq_getElem hix]
     obtain ⟨p, q, hpv, hqv, hpl, hql, htab⟩ := HST.out i T hTg
     have hF2 := HT2.out.F HFX.out (fun k hk h => by omega)
     obtain ⟨ad, cs, hA, hcl1, hFK, hcell, _⟩ := Kd.F_get hF2 ([] : List (List Int)) (i : Int) (by omega) (by omega)
     obtain ⟨At, ct, rfl, hct, hFx⟩ := Kd.FK_slice_open hFK
     have hx := hcell 0 _ rfl
     rw [Int.toNat_natCast, show (Kd.slice 22 (Kd.slice 3 (Kd.int .i64))).sz = 1 from rfl, Nat.mul_one, Nat.add_zero] at hx
     have hge : X.getD i [] = T := by rw [hT, List.getD_eq_getElem?_getD, List.getElem?_eq_getElem hix]; rfl
     rw [Int.toNat_natCast, hge] at hct hFx
     rw [hge] at hx
     have hvv := HV.out T (List.mem_of_getElem? hTg)
     simp only [Bool.and_eq_true, decide_eq_true_eq] at hvv
     have HIN := Aside0.mk (fun W' (hb : Below wr.heap.size wr W') => hpv ▸ spec_weInversions.calls 300 At ct T (inV T) W' (Kd.F_now (Kd.F_below hFx hb)) hct hvv.1)
     have HMI := Aside0.mk (fun W' (hb : Below wr.heap.size wr W') => hqv ▸ spec_sgMinus.calls 300 At ct T (moV T) W' (Kd.F_now (Kd.F_below hFx hb)) hct hvv.2)
     obtain ⟨tb, htb⟩ : ∃ tb, tb = jtOf inV moV X (zeroT 2 L) i := ⟨_, rfl⟩
     obtain ⟨tn, htn⟩ : ∃ tn, tn = jtOf inV moV X (zeroT 2 L) (i + 1) := ⟨_, rfl⟩
     rw [← htb, ← htn] at htab
     rw [← htb] at HS2 hpl hql
     have HTN := Aside0.mk htn
     have hnl : m6 = tb.length := (Kd.S_reads' HS2.out).1
     obtain ⟨gi, ci, hr1, hci, hgb, hr2, hput⟩ := S_put HS2.out p q hpl hql
     have hgi2 : gi < wo.heap.size := row_ok HS2.out p hpl (by omega) hr1
     obtain ⟨row, hrow⟩ : ∃ row, row = tb.getD p [] := ⟨_, rfl⟩
     rw [← hrow] at hr1 hr2 hci hql
     have hput2 : ∀ W', Below wr.heap.size wr W' → W'.frozen? ⟨gi, q, none⟩ = false ∧ Kd.S (Kd.slice 3 (Kd.int .i64)) 22 (W'.setCell ⟨gi, q, none⟩ (.int .i64 (IntKind.i64.wrap (rd row q + 1)))) w.heap.size (fun k => k < wo.heap.size) (.slice (some ⟨g6, 0, none⟩) m6 c6) tn := fun W' hb => ⟨(hput W' hb).1, by rw [htab, cntT, ← hrow, i64_w]; exact (hput W' hb).2 _⟩
     have HPUT := Aside0.mk hput2
     have HBC := Aside0.mk (Below.refl wr.heap.size wr)
     have hz1 : (p : Int) < (m6 : Int) := by omega
     have hz2 : (q : Int) < (row.length : Int) := by omega
     have hfr := (hput2 wr HBC.out).1
     have HGI := Aside0.mk hgi2
     have HGB := Aside0.mk hgb
     subst hA
     clear hput hput2 hF2 hFK hcell hFx hct hT hge hTg hpl hql hpv hqv hvv htab hnl htb htn hrow hgi2 hgb hci HS2 hcl1
     go_wp2
     go_region_law (first
      | (go_simp; go_at_call 64; (refine (HIN.out _ ?hbY).mono ?_); (case hbY => exact (by repeat (first | exact HBC.out | refine below_drew ?_))); rintro e w3 ⟨rfl, hb⟩; have n_ := fun h => Aside0.mk (Below.trans (B := wr.heap.size) h (hb.mono (Below.size h))); have m_ := n_ (by repeat (first | exact HBC.out | refine below_drew ?_)); clear n_ HBC; have HBC := m_; clear m_; have hq2 := pw_cell_below HBC.out hr1; have hq3 := pw_cell_below HBC.out hr2; have hq4 := (HPUT.out _ HBC.out).1; clear hb)
      | (go_simp; go_at_call 60; (refine (HMI.out _ ?hbZ).mono ?_); (case hbZ => exact (by repeat (first | exact HBC.out | refine below_drew ?_))); rintro e w4 ⟨rfl, hd⟩; have hb := hd.below; clear hd; have n_ := fun h => Aside0.mk (Below.trans (B := wr.heap.size) h (hb.mono (Below.size h))); have m_ := n_ (by repeat (first | exact HBC.out | refine below_drew ?_)); clear n_ HBC; have HBC := m_; clear m_; (try clear hq2 hq3 hq4); have hq2 := pw_cell_below HBC.out hr1; have hq3 := pw_cell_below HBC.out hr2; have hq4 := (HPUT.out _ HBC.out).1; clear hb))
     all_goals
      have HTS := Aside0.mk ((HT2.out.then_below HBC.out).set ⟨gi, q, none⟩ (.inl HGI.out) (.int .i64 (wrap64 (rd row q + 1))))
      have HBS := Aside0.mk ((HB2.out.trans (HBC.out.mono HB2.out.size)).setCell (p := ⟨gi, q, none⟩) HGB.out (.int .i64 (wrap64 (rd row q + 1))))
      have hps_ := (HPUT.out _ HBC.out).2
      rw [i64_w] at hps_
      have HPS := Aside0.mk hps_
      clear hps_
      go_wp2
      go_roundg (X.length - (i + 1))
      case measure => omega
      case rel => exact ⟨i + 1, by omega, by omega, by go_num, ⟨by rw [← HTN.out]; exact HPS.out⟩, HTS, HBS⟩
    ·have hzi : ¬ (i : Int) < (X.length : Int) := by omega
     have hie : i = X.length := by omega
     subst hie
     go_wp2
     go_ret2
     refine ⟨_, rfl, ?_, HB2.out⟩
     have h5 := Kd.S_mono HS2.out (ok' := fun _ => True) (fun _ _ => trivial)
     unfold jtN
     rw [← HLL.out, ← HX.out]
     exact h5
theorem jsP_3 : jsP 3 4 = true := by decide +kernel
set_option maxHeartbeats 8000000 in
theorem spec_JointTable.calls_3 (w : World) : Calls Try.prog 31 #[.int .i64 3] w (RetTT w (jtN 3 4 (mtA 3).length) true) := by
 have hP := jsP_3
 have hJ := jtP_3
 unfold jsP at hP
 unfold jtP at hJ
 simp only [Bool.and_eq_true, decide_eq_true_eq] at hP hJ
 obtain ⟨⟨⟨hwg, hval⟩, hmt⟩, hlen⟩ := hP
 obtain ⟨⟨_, hjt⟩, hLL⟩ := hJ
 have HS := Aside0.mk (fun W => spec_weSide.calls 3 true W (by decide +kernel))
 have HM := Aside0.mk (fun W => show Calls Try.prog 17 #[.int .i64 3] W _ from spec_MinusTable.calls 1000 3 (mtA 3) true W hmt)
 have HA := Aside0.mk (fun W => show Calls Try.prog 58 #[.int .i64 3] W _ from spec_weAll.calls 3 (esX 3) W (by rw [← hwg]; rfl))
 have HV := Aside0.mk (fun T (hT : T ∈ esX 3) => List.all_eq_true.1 hval T hT)
 have HST := Aside0.mk (jtOk_step inV moV (esX 3) _ hjt)
 obtain ⟨L, hL⟩ : ∃ L, L = (mtA 3).length := ⟨_, rfl⟩
 have HLL := Aside0.mk hL
 rw [show ((mtA ((3 : Nat) : Int)).length) = L from hL.symm] at HST hLL
 obtain ⟨X, hX⟩ : ∃ X, X = esX 3 := ⟨_, rfl⟩
 have HX := Aside0.mk hX
 rw [← hX] at HA HV HST hlen
 obtain ⟨r, hr⟩ : ∃ r, r = mtA 3 := ⟨_, rfl⟩
 rw [← hr] at HM
 have HRL := Aside0.mk (show r.length = L by rw [hr, hL])
 have mk1 : ∀ W : World, Sem.run Try.prog (Instr.makeSlice 22 (.int .i64 L) (.int .i64 L)) W = Result.ok (Value.slice (some ⟨W.heap.size, 0, none⟩) L L) (W.alloc (.cells (madeCells #[.int .i64 0] L) 3)) := fun W => run_make_row' (P := Try.prog) 22 3 (.int .i64 0) 8 Try.underlying22 info_ints rfl .i64 .i64 L (by omega) (by omega) W
 have HLB := Aside0.mk hLL
 clear hL hX hr hval hmt hwg hjt hLL
 go_enter Try.func31, Try.ntmps31
 go_wp2_with (first
  | (go_at_call 57; refine (HS.out _).mono ?_; rintro e w0 ⟨rfl, hd⟩; have HB := Aside0.mk hd.below; clear hd)
  | (go_at_call 17; refine (HM.out _).mono ?_; rintro e w1 ⟨v, rfl, hR, hb⟩; obtain ⟨A1, c1, rfl⟩ := Kd.R_slice hR; have HB1 := Aside0.mk (below_step HB.out hb); rw [HRL.out]; clear hR hb))
 go_loopg [6, 7] 4 (fun gg v6 v7 wr => ∃ p : Nat, p ≤ 4 ∧ 4 - p ≤ gg ∧ v7 = .int .i64 p ∧ Aside0 (Kd.S (Kd.slice 3 (Kd.int .i64)) 22 wr w.heap.size (fun _ => True) v6 (zeroT p L)) ∧ Aside0 (Below w.heap.size w wr))
 case atStart => exact ⟨0, Nat.zero_le _, Nat.le_refl _, rfl, ⟨Kd.S_nil _ _ _ _ _⟩, HB1⟩
 case round =>
  clear HB1 HB
  obtain ⟨p, hp, hg, rfl, HSP, HB⟩ := hrel
  by_cases hlt : p < 4
  ·skip
   have hz : (p : Int) ≤ 3 := by omega
   have hld : decide ((p : Int) ≤ 3) = true := decide_eq_true hz
   obtain ⟨t9, ht9⟩ : ∃ t9, t9 = zeroT p L ++ [List.replicate L 0] := ⟨_, rfl⟩
   have HT9 := Aside0.mk ht9
   have HZL := Aside0.mk (show (zeroT p L).length = p by simp [zeroT, tableL])
   obtain ⟨A6, c6, rfl⟩ := Kd.R_slice (Kd.S_R HSP.out)
   obtain ⟨wm, hwm⟩ : ∃ wm, wm = wr.alloc (.cells (madeCells #[.int .i64 0] L) 3) := ⟨_, rfl⟩
   have hI : intBlk wm wr.heap.size (List.replicate L 0) := by unfold intBlk; rw [← madeInts, hwm]; exact blk_new_at rfl
   have HR := Aside0.mk (intBlk_R (ok := fun k => k = wr.heap.size) hI HB.out.size rfl (by rw [List.length_replicate]; have := HLB.out; omega))
   have HSM := Aside0.mk (show Kd.S (Kd.slice 3 (Kd.int .i64)) 22 wm w.heap.size (fun k => True ∧ ¬ k = wr.heap.size) _ (zeroT p L) from by rw [hwm]; exact Kd.S_mono (Kd.S_below (Kd.S_bound HSP.out) (below_alloc (Below.refl _ _) _)) (fun k hk => ⟨trivial, by have := hk.2.2.1; omega⟩))
   have HBM := Aside0.mk (show Below w.heap.size w wm from by rw [hwm]; exact below_alloc HB.out _)
   have HNO := Aside0.mk (show ∀ k, k = wr.heap.size → True ∧ some k ≠ (Value.slice A6 (zeroT p L).length c6).ownBlock from fun k hk => ⟨trivial, fun e => by have := Kd.S_lt HSP.out k e.symm; omega⟩)
   have HSZM := Aside0.mk (show wm.heap.size = wr.heap.size + 1 by rw [hwm]; simp)
   have HWM := Aside0.mk hwm
   clear hI hwm ht9
   go_wp2_with ((with_reducible refine gate_builtin (b := .append) (xs := #[.tmp 27, .tmp 31]) rfl ?_); at_builtin; rw [← HWM.out]; refine Kd.S_append (Kd.slice 3 (Kd.int .i64)) (w0 := w) w.heap.size rfl (.tmp 27) (.tmp 31) 36 22 (.slice none 0 0) 24 rfl Try.underlying36 info_rowsJ rfl (by decide) (by omega) (.slice A6 (zeroT p L).length c6) (zeroT p L) (List.replicate L 0) [.slice (some ⟨wr.heap.size, 0, none⟩) L L] (fun _ => True) (fun k => k = wr.heap.size) rfl (by rw [HSZM.out]; rfl) ?aP HNO.out (fun _ _ => trivial) HSM.out HBM.out HBM.out.size (by rw [HZL.out]; omega) ?_; (case aP => (have h_ := HR.out; rw [List.length_replicate] at h_; exact Kd.M_row h_)); intro v8 w8 ho hb hg8 hat; rw [← HT9.out] at ho; have HO8 := Aside0.mk ho; have HB8 := Aside0.mk hb; clear ho hb hg8 hat)
   go_roundg (4 - (p + 1))
   case measure => omega
   case rel => exact ⟨p + 1, by omega, by omega, by go_num, ⟨by rw [← zeroT_snoc, ← HT9.out]; exact HO8.out⟩, HB8⟩
  ·have hz : ¬ (p : Int) ≤ 3 := by omega
   have hld : decide ((p : Int) ≤ 3) = false := decide_eq_false hz
   have hpe : p = 4 := by omega
   subst hpe
   obtain ⟨g6, c6, rfl, _, _, _⟩ := Kd.R_form (Kd.S_R HSP.out) (by simp [zeroT, tableL])
   have HSB := Aside0.mk (Kd.S_mono (ok' := fun k => k < wr.heap.size) (Kd.S_bound HSP.out) (fun k hk => hk.2.2.1))
   obtain ⟨m6, hm6⟩ : ∃ m6, m6 = (zeroT 4 L).length := ⟨_, rfl⟩
   rw [← hm6] at HSB ⊢
   clear hm6
   go_wp2_with (go_at_call 58; refine (HA.out _).mono ?_; rintro e w1 ⟨v, rfl, hN, hb⟩; obtain ⟨AX, cX, rfl⟩ := Kd.N_slice hN; have HFX := Aside0.mk (Kd.N_F hN); have HB1 := Aside0.mk (below_step HB.out hb); have HS1 := Aside0.mk (Kd.S_below HSB.out hb); clear hN hb)
   obtain ⟨wo, rfl⟩ : ∃ wo : World, wo = wr := ⟨_, rfl⟩
   clear HSP HSB
   have hlx := hlen
   go_loopg [36] X.length (fun gg s36 wr => ∃ i : Nat, i ≤ X.length ∧ X.length - i ≤ gg ∧ s36 = .int .i64 i ∧ Aside0 (Kd.S (Kd.slice 3 (Kd.int .i64)) 22 wr w.heap.size (fun k => k < wo.heap.size) (.slice (some ⟨g6, 0, none⟩) m6 c6) (jtOf inV moV X (zeroT 4 L) i)) ∧ Aside0 (Touch w1 wr (fun k => k < wo.heap.size)) ∧ Aside0 (Below w.heap.size w wr))
   case atStart => exact ⟨0, Nat.zero_le _, Nat.le_refl _, rfl, ⟨by have h_ := HS1.out; cases hq : X <;> exact h_⟩, ⟨Touch.refl _ _⟩, HB1⟩
   case round =>
    clear HS1 HB1
    obtain ⟨i, hi, hgi, rfl, HS2, HT2, HB2⟩ := hrel
    by_cases hix : i < X.length
    ·have hzi : (i : Int) < (X.length : Int) := by omega
     obtain ⟨T, hT⟩ : ∃ T, T = X[i] := ⟨_, rfl⟩
     have hTg : X[i]? = some T := by rw [hT, List.getElem?_eq_getElem hix]
     obtain ⟨p, q, hpv, hqv, hpl, hql, htab⟩ := HST.out i T hTg
     have hF2 := HT2.out.F HFX.out (fun k hk h => by omega)
     obtain ⟨ad, cs, hA, hcl1, hFK, hcell, _⟩ := Kd.F_get hF2 ([] : List (List Int)) (i : Int) (by omega) (by omega)
     obtain ⟨At, ct, rfl, hct, hFx⟩ := Kd.FK_slice_open hFK
     have hx := hcell 0 _ rfl
     rw [Int.toNat_natCast, show (Kd.slice 22 (Kd.slice 3 (Kd.int .i64))).sz = 1 from rfl, Nat.mul_one, Nat.add_zero] at hx
     have hge : X.getD i [] = T := by rw [hT, List.getD_eq_getElem?_getD, List.getElem?_eq_getElem hix]; rfl
     rw [Int.toNat_natCast, hge] at hct hFx
     rw [hge] at hx
     have hvv := HV.out T (List.mem_of_getElem? hTg)
     simp only [Bool.and_eq_true, decide_eq_true_eq] at hvv
     have HIN := Aside0.mk (fun W' (hb : Below wr.heap.size wr W') => hpv ▸ spec_weInversions.calls 300 At ct T (inV T) W' (Kd.F_now (Kd.F_below hFx hb)) hct hvv.1)
     have HMI := Aside0.mk (fun W' (hb : Below wr.heap.size wr W') => hqv ▸ spec_sgMinus.calls 300 At ct T (moV T) W' (Kd.F_now (Kd.F_below hFx hb)) hct hvv.2)
     obtain ⟨tb, htb⟩ : ∃ tb, tb = jtOf inV moV X (zeroT 4 L) i := ⟨_, rfl⟩
     obtain ⟨tn, htn⟩ : ∃ tn, tn = jtOf inV moV X (zeroT 4 L) (i + 1) := ⟨_, rfl⟩
     rw [← htb, ← htn] at htab
     rw [← htb] at HS2 hpl hql
     have HTN := Aside0.mk htn
     have hnl : m6 = tb.length := (Kd.S_reads' HS2.out).1
     obtain ⟨gi, ci, hr1, hci, hgb, hr2, hput⟩ := S_put HS2.out p q hpl hql
     have hgi2 : gi < wo.heap.size := row_ok HS2.out p hpl (by omega) hr1
     obtain ⟨row, hrow⟩ : ∃ row, row = tb.getD p [] := ⟨_, rfl⟩
     rw [← hrow] at hr1 hr2 hci hql
     have hput2 : ∀ W', Below wr.heap.size wr W' → W'.frozen? ⟨gi, q, none⟩ = false ∧ Kd.S (Kd.slice 3 (Kd.int .i64)) 22 (W'.setCell ⟨gi, q, none⟩ (.int .i64 (IntKind.i64.wrap (rd row q + 1)))) w.heap.size (fun k => k < wo.heap.size) (.slice (some ⟨g6, 0, none⟩) m6 c6) tn := fun W' hb => ⟨(hput W' hb).1, by rw [htab, cntT, ← hrow, i64_w]; exact (hput W' hb).2 _⟩
     have HPUT := Aside0.mk hput2
     have HBC := Aside0.mk (Below.refl wr.heap.size wr)
     have hz1 : (p : Int) < (m6 : Int) := by omega
     have hz2 : (q : Int) < (row.length : Int) := by omega
     have hfr := (hput2 wr HBC.out).1
     have HGI := Aside0.mk hgi2
     have HGB := Aside0.mk hgb
     subst hA
     clear hput hput2 hF2 hFK hcell hFx hct hT hge hTg hpl hql hpv hqv hvv htab hnl htb htn hrow hgi2 hgb hci HS2 hcl1
     go_wp2
     go_region_law (first
      | (go_simp; go_at_call 64; (refine (HIN.out _ ?hbY).mono ?_); (case hbY => exact (by repeat (first | exact HBC.out | refine below_drew ?_))); rintro e w3 ⟨rfl, hb⟩; have n_ := fun h => Aside0.mk (Below.trans (B := wr.heap.size) h (hb.mono (Below.size h))); have m_ := n_ (by repeat (first | exact HBC.out | refine below_drew ?_)); clear n_ HBC; have HBC := m_; clear m_; have hq2 := pw_cell_below HBC.out hr1; have hq3 := pw_cell_below HBC.out hr2; have hq4 := (HPUT.out _ HBC.out).1; clear hb)
      | (go_simp; go_at_call 60; (refine (HMI.out _ ?hbZ).mono ?_); (case hbZ => exact (by repeat (first | exact HBC.out | refine below_drew ?_))); rintro e w4 ⟨rfl, hd⟩; have hb := hd.below; clear hd; have n_ := fun h => Aside0.mk (Below.trans (B := wr.heap.size) h (hb.mono (Below.size h))); have m_ := n_ (by repeat (first | exact HBC.out | refine below_drew ?_)); clear n_ HBC; have HBC := m_; clear m_; (try clear hq2 hq3 hq4); have hq2 := pw_cell_below HBC.out hr1; have hq3 := pw_cell_below HBC.out hr2; have hq4 := (HPUT.out _ HBC.out).1; clear hb))
     all_goals
      have HTS := Aside0.mk ((HT2.out.then_below HBC.out).set ⟨gi, q, none⟩ (.inl HGI.out) (.int .i64 (wrap64 (rd row q + 1))))
      have HBS := Aside0.mk ((HB2.out.trans (HBC.out.mono HB2.out.size)).setCell (p := ⟨gi, q, none⟩) HGB.out (.int .i64 (wrap64 (rd row q + 1))))
      have hps_ := (HPUT.out _ HBC.out).2
      rw [i64_w] at hps_
      have HPS := Aside0.mk hps_
      clear hps_
      go_wp2
      go_roundg (X.length - (i + 1))
      case measure => omega
      case rel => exact ⟨i + 1, by omega, by omega, by go_num, ⟨by rw [← HTN.out]; exact HPS.out⟩, HTS, HBS⟩
    ·have hzi : ¬ (i : Int) < (X.length : Int) := by omega
     have hie : i = X.length := by omega
     subst hie
     go_wp2
     go_ret2
     refine ⟨_, rfl, ?_, HB2.out⟩
     have h5 := Kd.S_mono HS2.out (ok' := fun _ => True) (fun _ _ => trivial)
     unfold jtN
     rw [← HLL.out, ← HX.out]
     exact h5
theorem jsP_4 : jsP 4 7 = true := by decide +kernel
set_option maxHeartbeats 8000000 in
theorem spec_JointTable.calls_4 (w : World) : Calls Try.prog 31 #[.int .i64 4] w (RetTT w (jtN 4 7 (mtA 4).length) true) := by
 have hP := jsP_4
 have hJ := jtP_4
 unfold jsP at hP
 unfold jtP at hJ
 simp only [Bool.and_eq_true, decide_eq_true_eq] at hP hJ
 obtain ⟨⟨⟨hwg, hval⟩, hmt⟩, hlen⟩ := hP
 obtain ⟨⟨_, hjt⟩, hLL⟩ := hJ
 have HS := Aside0.mk (fun W => spec_weSide.calls 4 true W (by decide +kernel))
 have HM := Aside0.mk (fun W => show Calls Try.prog 17 #[.int .i64 4] W _ from spec_MinusTable.calls 1000 4 (mtA 4) true W hmt)
 have HA := Aside0.mk (fun W => show Calls Try.prog 58 #[.int .i64 4] W _ from spec_weAll.calls 4 (esX 4) W (by rw [← hwg]; rfl))
 have HV := Aside0.mk (fun T (hT : T ∈ esX 4) => List.all_eq_true.1 hval T hT)
 have HST := Aside0.mk (jtOk_step inV moV (esX 4) _ hjt)
 obtain ⟨L, hL⟩ : ∃ L, L = (mtA 4).length := ⟨_, rfl⟩
 have HLL := Aside0.mk hL
 rw [show ((mtA ((4 : Nat) : Int)).length) = L from hL.symm] at HST hLL
 obtain ⟨X, hX⟩ : ∃ X, X = esX 4 := ⟨_, rfl⟩
 have HX := Aside0.mk hX
 rw [← hX] at HA HV HST hlen
 obtain ⟨r, hr⟩ : ∃ r, r = mtA 4 := ⟨_, rfl⟩
 rw [← hr] at HM
 have HRL := Aside0.mk (show r.length = L by rw [hr, hL])
 have mk1 : ∀ W : World, Sem.run Try.prog (Instr.makeSlice 22 (.int .i64 L) (.int .i64 L)) W = Result.ok (Value.slice (some ⟨W.heap.size, 0, none⟩) L L) (W.alloc (.cells (madeCells #[.int .i64 0] L) 3)) := fun W => run_make_row' (P := Try.prog) 22 3 (.int .i64 0) 8 Try.underlying22 info_ints rfl .i64 .i64 L (by omega) (by omega) W
 have HLB := Aside0.mk hLL
 clear hL hX hr hval hmt hwg hjt hLL
 go_enter Try.func31, Try.ntmps31
 go_wp2_with (first
  | (go_at_call 57; refine (HS.out _).mono ?_; rintro e w0 ⟨rfl, hd⟩; have HB := Aside0.mk hd.below; clear hd)
  | (go_at_call 17; refine (HM.out _).mono ?_; rintro e w1 ⟨v, rfl, hR, hb⟩; obtain ⟨A1, c1, rfl⟩ := Kd.R_slice hR; have HB1 := Aside0.mk (below_step HB.out hb); rw [HRL.out]; clear hR hb))
 go_loopg [6, 7] 7 (fun gg v6 v7 wr => ∃ p : Nat, p ≤ 7 ∧ 7 - p ≤ gg ∧ v7 = .int .i64 p ∧ Aside0 (Kd.S (Kd.slice 3 (Kd.int .i64)) 22 wr w.heap.size (fun _ => True) v6 (zeroT p L)) ∧ Aside0 (Below w.heap.size w wr))
 case atStart => exact ⟨0, Nat.zero_le _, Nat.le_refl _, rfl, ⟨Kd.S_nil _ _ _ _ _⟩, HB1⟩
 case round =>
  clear HB1 HB
  obtain ⟨p, hp, hg, rfl, HSP, HB⟩ := hrel
  by_cases hlt : p < 7
  ·skip
   have hz : (p : Int) ≤ 6 := by omega
   have hld : decide ((p : Int) ≤ 6) = true := decide_eq_true hz
   obtain ⟨t9, ht9⟩ : ∃ t9, t9 = zeroT p L ++ [List.replicate L 0] := ⟨_, rfl⟩
   have HT9 := Aside0.mk ht9
   have HZL := Aside0.mk (show (zeroT p L).length = p by simp [zeroT, tableL])
   obtain ⟨A6, c6, rfl⟩ := Kd.R_slice (Kd.S_R HSP.out)
   obtain ⟨wm, hwm⟩ : ∃ wm, wm = wr.alloc (.cells (madeCells #[.int .i64 0] L) 3) := ⟨_, rfl⟩
   have hI : intBlk wm wr.heap.size (List.replicate L 0) := by unfold intBlk; rw [← madeInts, hwm]; exact blk_new_at rfl
   have HR := Aside0.mk (intBlk_R (ok := fun k => k = wr.heap.size) hI HB.out.size rfl (by rw [List.length_replicate]; have := HLB.out; omega))
   have HSM := Aside0.mk (show Kd.S (Kd.slice 3 (Kd.int .i64)) 22 wm w.heap.size (fun k => True ∧ ¬ k = wr.heap.size) _ (zeroT p L) from by rw [hwm]; exact Kd.S_mono (Kd.S_below (Kd.S_bound HSP.out) (below_alloc (Below.refl _ _) _)) (fun k hk => ⟨trivial, by have := hk.2.2.1; omega⟩))
   have HBM := Aside0.mk (show Below w.heap.size w wm from by rw [hwm]; exact below_alloc HB.out _)
   have HNO := Aside0.mk (show ∀ k, k = wr.heap.size → True ∧ some k ≠ (Value.slice A6 (zeroT p L).length c6).ownBlock from fun k hk => ⟨trivial, fun e => by have := Kd.S_lt HSP.out k e.symm; omega⟩)
   have HSZM := Aside0.mk (show wm.heap.size = wr.heap.size + 1 by rw [hwm]; simp)
   have HWM := Aside0.mk hwm
   clear hI hwm ht9
   go_wp2_with ((with_reducible refine gate_builtin (b := .append) (xs := #[.tmp 27, .tmp 31]) rfl ?_); at_builtin; rw [← HWM.out]; refine Kd.S_append (Kd.slice 3 (Kd.int .i64)) (w0 := w) w.heap.size rfl (.tmp 27) (.tmp 31) 36 22 (.slice none 0 0) 24 rfl Try.underlying36 info_rowsJ rfl (by decide) (by omega) (.slice A6 (zeroT p L).length c6) (zeroT p L) (List.replicate L 0) [.slice (some ⟨wr.heap.size, 0, none⟩) L L] (fun _ => True) (fun k => k = wr.heap.size) rfl (by rw [HSZM.out]; rfl) ?aP HNO.out (fun _ _ => trivial) HSM.out HBM.out HBM.out.size (by rw [HZL.out]; omega) ?_; (case aP => (have h_ := HR.out; rw [List.length_replicate] at h_; exact Kd.M_row h_)); intro v8 w8 ho hb hg8 hat; rw [← HT9.out] at ho; have HO8 := Aside0.mk ho; have HB8 := Aside0.mk hb; clear ho hb hg8 hat)
   go_roundg (7 - (p + 1))
   case measure => omega
   case rel => exact ⟨p + 1, by omega, by omega, by go_num, ⟨by rw [← zeroT_snoc, ← HT9.out]; exact HO8.out⟩, HB8⟩
  ·have hz : ¬ (p : Int) ≤ 6 := by omega
   have hld : decide ((p : Int) ≤ 6) = false := decide_eq_false hz
   have hpe : p = 7 := by omega
   subst hpe
   obtain ⟨g6, c6, rfl, _, _, _⟩ := Kd.R_form (Kd.S_R HSP.out) (by simp [zeroT, tableL])
   have HSB := Aside0.mk (Kd.S_mono (ok' := fun k => k < wr.heap.size) (Kd.S_bound HSP.out) (fun k hk => hk.2.2.1))
   obtain ⟨m6, hm6⟩ : ∃ m6, m6 = (zeroT 7 L).length := ⟨_, rfl⟩
   rw [← hm6] at HSB ⊢
   clear hm6
   go_wp2_with (go_at_call 58; refine (HA.out _).mono ?_; rintro e w1 ⟨v, rfl, hN, hb⟩; obtain ⟨AX, cX, rfl⟩ := Kd.N_slice hN; have HFX := Aside0.mk (Kd.N_F hN); have HB1 := Aside0.mk (below_step HB.out hb); have HS1 := Aside0.mk (Kd.S_below HSB.out hb); clear hN hb)
   obtain ⟨wo, rfl⟩ : ∃ wo : World, wo = wr := ⟨_, rfl⟩
   clear HSP HSB
   have hlx := hlen
   go_loopg [36] X.length (fun gg s36 wr => ∃ i : Nat, i ≤ X.length ∧ X.length - i ≤ gg ∧ s36 = .int .i64 i ∧ Aside0 (Kd.S (Kd.slice 3 (Kd.int .i64)) 22 wr w.heap.size (fun k => k < wo.heap.size) (.slice (some ⟨g6, 0, none⟩) m6 c6) (jtOf inV moV X (zeroT 7 L) i)) ∧ Aside0 (Touch w1 wr (fun k => k < wo.heap.size)) ∧ Aside0 (Below w.heap.size w wr))
   case atStart => exact ⟨0, Nat.zero_le _, Nat.le_refl _, rfl, ⟨by have h_ := HS1.out; cases hq : X <;> exact h_⟩, ⟨Touch.refl _ _⟩, HB1⟩
   case round =>
    clear HS1 HB1
    obtain ⟨i, hi, hgi, rfl, HS2, HT2, HB2⟩ := hrel
    by_cases hix : i < X.length
    ·have hzi : (i : Int) < (X.length : Int) := by omega
     obtain ⟨T, hT⟩ : ∃ T, T = X[i] := ⟨_, rfl⟩
     have hTg : X[i]? = some T := by rw [hT, List.getElem?_eq_getElem hix]
     obtain ⟨p, q, hpv, hqv, hpl, hql, htab⟩ := HST.out i T hTg
     have hF2 := HT2.out.F HFX.out (fun k hk h => by omega)
     obtain ⟨ad, cs, hA, hcl1, hFK, hcell, _⟩ := Kd.F_get hF2 ([] : List (List Int)) (i : Int) (by omega) (by omega)
     obtain ⟨At, ct, rfl, hct, hFx⟩ := Kd.FK_slice_open hFK
     have hx := hcell 0 _ rfl
     rw [Int.toNat_natCast, show (Kd.slice 22 (Kd.slice 3 (Kd.int .i64))).sz = 1 from rfl, Nat.mul_one, Nat.add_zero] at hx
     have hge : X.getD i [] = T := by rw [hT, List.getD_eq_getElem?_getD, List.getElem?_eq_getElem hix]; rfl
     rw [Int.toNat_natCast, hge] at hct hFx
     rw [hge] at hx
     have hvv := HV.out T (List.mem_of_getElem? hTg)
     simp only [Bool.and_eq_true, decide_eq_true_eq] at hvv
     have HIN := Aside0.mk (fun W' (hb : Below wr.heap.size wr W') => hpv ▸ spec_weInversions.calls 300 At ct T (inV T) W' (Kd.F_now (Kd.F_below hFx hb)) hct hvv.1)
     have HMI := Aside0.mk (fun W' (hb : Below wr.heap.size wr W') => hqv ▸ spec_sgMinus.calls 300 At ct T (moV T) W' (Kd.F_now (Kd.F_below hFx hb)) hct hvv.2)
     obtain ⟨tb, htb⟩ : ∃ tb, tb = jtOf inV moV X (zeroT 7 L) i := ⟨_, rfl⟩
     obtain ⟨tn, htn⟩ : ∃ tn, tn = jtOf inV moV X (zeroT 7 L) (i + 1) := ⟨_, rfl⟩
     rw [← htb, ← htn] at htab
     rw [← htb] at HS2 hpl hql
     have HTN := Aside0.mk htn
     have hnl : m6 = tb.length := (Kd.S_reads' HS2.out).1
     obtain ⟨gi, ci, hr1, hci, hgb, hr2, hput⟩ := S_put HS2.out p q hpl hql
     have hgi2 : gi < wo.heap.size := row_ok HS2.out p hpl (by omega) hr1
     obtain ⟨row, hrow⟩ : ∃ row, row = tb.getD p [] := ⟨_, rfl⟩
     rw [← hrow] at hr1 hr2 hci hql
     have hput2 : ∀ W', Below wr.heap.size wr W' → W'.frozen? ⟨gi, q, none⟩ = false ∧ Kd.S (Kd.slice 3 (Kd.int .i64)) 22 (W'.setCell ⟨gi, q, none⟩ (.int .i64 (IntKind.i64.wrap (rd row q + 1)))) w.heap.size (fun k => k < wo.heap.size) (.slice (some ⟨g6, 0, none⟩) m6 c6) tn := fun W' hb => ⟨(hput W' hb).1, by rw [htab, cntT, ← hrow, i64_w]; exact (hput W' hb).2 _⟩
     have HPUT := Aside0.mk hput2
     have HBC := Aside0.mk (Below.refl wr.heap.size wr)
     have hz1 : (p : Int) < (m6 : Int) := by omega
     have hz2 : (q : Int) < (row.length : Int) := by omega
     have hfr := (hput2 wr HBC.out).1
     have HGI := Aside0.mk hgi2
     have HGB := Aside0.mk hgb
     subst hA
     clear hput hput2 hF2 hFK hcell hFx hct hT hge hTg hpl hql hpv hqv hvv htab hnl htb htn hrow hgi2 hgb hci HS2 hcl1
     go_wp2
     go_region_law (first
      | (go_simp; go_at_call 64; (refine (HIN.out _ ?hbY).mono ?_); (case hbY => exact (by repeat (first | exact HBC.out | refine below_drew ?_))); rintro e w3 ⟨rfl, hb⟩; have n_ := fun h => Aside0.mk (Below.trans (B := wr.heap.size) h (hb.mono (Below.size h))); have m_ := n_ (by repeat (first | exact HBC.out | refine below_drew ?_)); clear n_ HBC; have HBC := m_; clear m_; have hq2 := pw_cell_below HBC.out hr1; have hq3 := pw_cell_below HBC.out hr2; have hq4 := (HPUT.out _ HBC.out).1; clear hb)
      | (go_simp; go_at_call 60; (refine (HMI.out _ ?hbZ).mono ?_); (case hbZ => exact (by repeat (first | exact HBC.out | refine below_drew ?_))); rintro e w4 ⟨rfl, hd⟩; have hb := hd.below; clear hd; have n_ := fun h => Aside0.mk (Below.trans (B := wr.heap.size) h (hb.mono (Below.size h))); have m_ := n_ (by repeat (first | exact HBC.out | refine below_drew ?_)); clear n_ HBC; have HBC := m_; clear m_; (try clear hq2 hq3 hq4); have hq2 := pw_cell_below HBC.out hr1; have hq3 := pw_cell_below HBC.out hr2; have hq4 := (HPUT.out _ HBC.out).1; clear hb))
     all_goals
      have HTS := Aside0.mk ((HT2.out.then_below HBC.out).set ⟨gi, q, none⟩ (.inl HGI.out) (.int .i64 (wrap64 (rd row q + 1))))
      have HBS := Aside0.mk ((HB2.out.trans (HBC.out.mono HB2.out.size)).setCell (p := ⟨gi, q, none⟩) HGB.out (.int .i64 (wrap64 (rd row q + 1))))
      have hps_ := (HPUT.out _ HBC.out).2
      rw [i64_w] at hps_
      have HPS := Aside0.mk hps_
      clear hps_
      go_wp2
      go_roundg (X.length - (i + 1))
      case measure => omega
      case rel => exact ⟨i + 1, by omega, by omega, by go_num, ⟨by rw [← HTN.out]; exact HPS.out⟩, HTS, HBS⟩
    ·have hzi : ¬ (i : Int) < (X.length : Int) := by omega
     have hie : i = X.length := by omega
     subst hie
     go_wp2
     go_ret2
     refine ⟨_, rfl, ?_, HB2.out⟩
     have h5 := Kd.S_mono HS2.out (ok' := fun _ => True) (fun _ _ => trivial)
     unfold jtN
     rw [← HLL.out, ← HX.out]
     exact h5
set_option maxHeartbeats 2000000 in
theorem spec_JointTable_calls (n : Int) (w : World) : Calls Try.prog 31 #[.int .i64 n] w (RetTT w (jtA n) (inB n 1 4)) := by
 cases hi : inB n 1 4 with
 | false =>
  have HS := Aside0.mk (fun W => spec_weSide.calls n false W (by unfold spec_weSide.f; rw [in_eq, hi]; rfl))
  rw [jtA_out hi]
  clear hi
  go_enter Try.func31, Try.ntmps31
  go_wp2_with (go_at_call 57; refine (HS.out _).mono ?_; rintro e w1 ⟨rfl, hd⟩; have HB := Aside0.mk hd.below; clear hd)
  go_ret2
  exact ⟨_, rfl, Kd.S_nil _ _ _ _ _, HB.out⟩
 | true =>
  rcases one_four hi with rfl | rfl | rfl | rfl
  ·exact spec_JointTable.calls_1 w
  ·exact spec_JointTable.calls_2 w
  ·exact spec_JointTable.calls_3 w
  ·exact spec_JointTable.calls_4 w
end Go.Proofs.Ytdcdkckpmkfjdaa.L
