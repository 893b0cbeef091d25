import Derived.Test.YtlpadkbpbmoliaaHf
import Derived.Test.YtlpadkbpbmoliaaHA
import Derived.Test.YtlpadkbpbmoliaaHC
namespace Go.Proofs.Ytlpadkbpbmoliaa
open Go.RowKit Go.Proofs.YtlpadkbpbmoliaaW.PrintWords Go.Proofs.YtlpadkbpbmoliaaW.PrintLast Go.Proofs.YtlpadkbpbmoliaaW.PrintMore
set_option linter.unusedVariables false
set_option linter.unusedSimpArgs false

def bitI (b : Bool) : Int := if b then 1 else 0
theorem impl_bit.calls' (b : Bool) (w : World) :
    Calls Try.prog 94 #[.bool b] w fun e w' => e = .returned (.int .i64 (bitI b)) ∧ w = w' := by
  cases b with
  | true =>
    go_enter Try.func94, Try.ntmps94
    go_wp2
    go_ret
    exact ⟨rfl, rfl⟩
  | false =>
    go_enter Try.func94, Try.ntmps94
    go_wp2
    go_ret
    exact ⟨rfl, rfl⟩
/-- The sign that a kind stands for. -/
def fkF (m : List (List Int)) (i j : Nat) : Int := if rd (m.getD i []) j = 4 then 1 else if rd (m.getD i []) j = 5 then -1 else 0
def fkT (m : List (List Int)) : List (List Int) := tableL (fkF m) m.length m.length
set_option maxHeartbeats 4000000 in
theorem FromKinds_1.calls (l0 : List (List Int)) (i j b : Nat) (A0 : Option Addr) (c0 : Nat) (W : World) (hi : i < l0.length) (hj : j < (l0.getD i []).length)
    (hr0 : Kd.C (Kd.slice 3 (Kd.int .i64)) W A0 l0.length l0) (hx0 : W.cell? ⟨b, 0, none⟩ = some (.slice A0 l0.length c0)) :
    Gives Try.prog 93 #[.int .i64 i, .int .i64 j, .pointer (some ⟨b, 0, none⟩)] W (.int .i64 (fkF l0 i j)) := by
  unfold Gives
  have hlen := hr0.2.1
  obtain ⟨ad, A1, c1, e0, hx, hc1, hrow⟩ := rowsAt hr0 i hi
  cases e0
  have hrl := hrow.2.1
  obtain ⟨ad2, e2, hy⟩ := Kd.at_int hrow j (by omega) (by omega)
  cases e2
  have HK := Aside0.mk (show fkF l0 i j = if rd (l0.getD i []) j = 4 then 1 else if rd (l0.getD i []) j = 5 then -1 else 0 from rfl)
  obtain ⟨row, hrw⟩ : ∃ r, r = l0.getD i [] := ⟨_, rfl⟩
  rw [← hrw] at hy hx HK hj hc1 hrl
  obtain ⟨x, hxx⟩ : ∃ x, x = rd row j := ⟨_, rfl⟩
  rw [← hxx] at hy HK
  simp only [Int.toNat_natCast] at hy
  have hiz : (i : Int) < (l0.length : Int) := by omega
  have hjz : (j : Int) < (row.length : Int) := by omega
  clear hrw hxx hrow hr0
  by_cases e1 : x = 4
  · have HE := Aside0.mk (show fkF l0 i j = 1 by rw [HK.out, if_pos e1])
    subst e1
    clear HK
    go_enter Try.func93, Try.ntmps93
    go_wp2
    go_region_held3 (fun W1 => W1.cell? ⟨b, 0, none⟩ = some (.slice (some ad) l0.length c0) ∧ W1.cell? (ad.add i) = some (.slice (some ad2) row.length c1) ∧ W1.cell? (ad2.add j) = some (.int .i64 4) ∧ Below W.heap.size W W1) (first | (refine ⟨by simp [*], by simp [*], by simp [*], ?_⟩; repeat (first | assumption | exact Below.refl _ _ | apply below_drew))) (first | (go_at_call 94; refine (impl_bit.calls' _ _).mono ?_; rintro e w2 ⟨rfl, rfl⟩))
    all_goals
      go_wp2
      go_ret
      exact ⟨by rw [HE.out]; rfl, by repeat (first | exact Below.refl _ _ | apply below_drew)⟩
  · have hx1 : (x == 4) = false := by rw [beq_eq_false_iff_ne]; exact e1
    by_cases e2 : x = 5
    · have HE := Aside0.mk (show fkF l0 i j = -1 by rw [HK.out, if_neg e1, if_pos e2])
      subst e2
      clear HK
      go_enter Try.func93, Try.ntmps93
      go_wp2
      go_region_held3 (fun W1 => W1.cell? ⟨b, 0, none⟩ = some (.slice (some ad) l0.length c0) ∧ W1.cell? (ad.add i) = some (.slice (some ad2) row.length c1) ∧ W1.cell? (ad2.add j) = some (.int .i64 5) ∧ Below W.heap.size W W1) (first | (refine ⟨by simp [*], by simp [*], by simp [*], ?_⟩; repeat (first | assumption | exact Below.refl _ _ | apply below_drew))) (first | (go_at_call 94; refine (impl_bit.calls' _ _).mono ?_; rintro e w2 ⟨rfl, rfl⟩))
      all_goals
        go_wp2
        go_ret
        exact ⟨by rw [HE.out]; rfl, by repeat (first | exact Below.refl _ _ | apply below_drew)⟩
    · have hx2 : (x == 5) = false := by rw [beq_eq_false_iff_ne]; exact e2
      have HE := Aside0.mk (show fkF l0 i j = 0 by rw [HK.out, if_neg e1, if_neg e2])
      clear HK e1 e2
      go_enter Try.func93, Try.ntmps93
      go_wp2
      go_region_held3 (fun W1 => W1.cell? ⟨b, 0, none⟩ = some (.slice (some ad) l0.length c0) ∧ W1.cell? (ad.add i) = some (.slice (some ad2) row.length c1) ∧ W1.cell? (ad2.add j) = some (.int .i64 x) ∧ Below W.heap.size W W1) (first | (refine ⟨by simp [*], by simp [*], by simp [*], ?_⟩; repeat (first | assumption | exact Below.refl _ _ | apply below_drew))) (first | (go_at_call 94; refine (impl_bit.calls' _ _).mono ?_; rintro e w2 ⟨rfl, rfl⟩))
      all_goals
        go_wp2
        go_ret
        exact ⟨by rw [HE.out]; rfl, by repeat (first | exact Below.refl _ _ | apply below_drew)⟩

/-- What FromKinds answers. -/
def fkOk (m : List (List Int)) : Bool := inB m.length 1 6 && (squareB m && (isSign (fkT m) && (cmpT (kindsM (fkT m)) m == 0)))
def fkR (m : List (List Int)) : List (List Int) := if fkOk m = true then fkT m else []
theorem fkT_length (m : List (List Int)) : (fkT m).length = m.length := tableL_length _ _ _
set_option maxHeartbeats 4000000 in
theorem impl_FromKinds.callsG (A0 : Option Addr) (c0 : Nat) (l0 : List (List Int)) (w : World) (hr0 : Kd.C (Kd.slice 3 (Kd.int .i64)) w A0 l0.length l0) (hc0 : l0.length ≤ c0) :
    Calls Try.prog 45 #[.slice A0 l0.length c0] w (RetT w (fkR l0) (fkOk l0)) := by
  have hB2 : Below w.heap.size w (w.alloc (.cells #[.slice A0 l0.length c0] 22)) := below_alloc (Below.refl _ _) _
  have hx : (w.alloc (.cells #[.slice A0 l0.length c0] 22)).cell? ⟨w.heap.size, 0, none⟩ = some (.slice A0 l0.length c0) := by rw [World.cell?_alloc_at _ _ _ _ rfl]; rfl
  have HX := Aside0.mk hx
  have HR0 := Aside0.mk hr0
  have HC0 := Aside0.mk hc0
  have HB0 := Aside0.mk hB2
  have HRD := Aside0.mk (show fkR l0 = if fkOk l0 = true then fkT l0 else [] from rfl)
  have HOD := Aside0.mk (show fkOk l0 = (inB l0.length 1 6 && (squareB l0 && (isSign (fkT l0) && (cmpT (kindsM (fkT l0)) l0 == 0)))) from rfl)
  have hsd := fun W => impl_isSide.calls' (l0.length : Int) W
  have hsq := fun W hb => impl_isSquare.callsG A0 c0 l0 W (Kd.C_below hr0 hb) hc0
  clear hr0 hc0 hB2 hx
  cases h1 : inB (l0.length : Int) 1 6 with
  | false =>
    rw [h1] at hsd
    have HO := Aside0.mk (show fkOk l0 = false by rw [HOD.out, h1]; rfl)
    have HE := Aside0.mk (show fkR l0 = [] by rw [HRD.out, HO.out]; rfl)
    clear h1 hsq
    have hx := HX.out
    go_enter Try.func45, Try.ntmps45
    go_wp2_with (go_at_call 90; refine (hsd _).mono ?_; rintro e w1 ⟨rfl, hd⟩; have hb := below_step HB0.out hd.below; clear hd)
    go_ret2
    exact ⟨_, by rw [HO.out]; rfl, by rw [HE.out]; exact Kd.S_nil _ _ _ _ _, hb⟩
  | true =>
    have hbd := (inB_iff _ _ _).1 h1
    rw [h1] at hsd
    cases h2 : squareB l0 with
    | false =>
      have HO := Aside0.mk (show fkOk l0 = false by rw [HOD.out, h1, h2]; rfl)
      have HE := Aside0.mk (show fkR l0 = [] by rw [HRD.out, HO.out]; rfl)
      rw [h2] at hsq
      clear h1 h2
      have hx := HX.out
      go_enter Try.func45, Try.ntmps45
      go_wp2_with (first | (go_at_call 90; refine (hsd _).mono ?_; rintro e w1 ⟨rfl, hd⟩; have HB1 := Aside0.mk (below_step HB0.out hd.below); have hx1 := pw_cell_below hd.below hx; clear hd) | (go_at_call 91; refine (hsq _ HB1.out).mono ?_; rintro e w2 ⟨rfl, hb⟩; have hb2 := below_step HB1.out hb))
      go_ret2
      exact ⟨_, by rw [HO.out]; rfl, by rw [HE.out]; exact Kd.S_nil _ _ _ _ _, hb2⟩
    | true =>
      have hrl : ∀ i, i < l0.length → (l0.getD i []).length = l0.length := fun i hi => by
        rw [getD_at l0 [] i hi]
        exact beq_iff_eq.1 (List.all_eq_true.1 h2 _ (List.getElem_mem hi))
      rw [h2] at hsq
      have eg : ∀ args w, (callFunc 93 args).run Try.prog w = .ok (.enter 93 args) w := enters_of Try.func93 (by kernel_rfl) rfl
      have HTB := Aside0.mk (fun (W : World) (hb : Below w.heap.size w W) (hx : W.cell? ⟨w.heap.size, 0, none⟩ = some (.slice A0 l0.length c0)) => impl_tableC.callsM 93 #[.pointer (some ⟨w.heap.size, 0, none⟩)] (fkF l0) l0.length l0.length W (by omega) (by omega) eg
        (fun i j W' hi hj hb' => FromKinds_1.calls l0 i j _ A0 c0 W' hi (by rw [hrl i hi]; exact hj) (Kd.C_below (Kd.C_below HR0.out hb) hb') (pw_cell_below hb' hx)))
      have hTL : (tableL (fkF l0) l0.length l0.length).length = l0.length := tableL_length _ _ _
      have HTR := Aside0.mk (fun i (hi : i < l0.length) => show ((tableL (fkF l0) l0.length l0.length).getD i []).length = l0.length by rw [tableL_get _ _ _ _ hi, rowL_length])
      have HSG := Aside0.mk (fun (W : World) (A : Option Addr) (c : Nat) (hC : Kd.C (Kd.slice 3 (Kd.int .i64)) W A (fkT l0).length (fkT l0)) (hc : (fkT l0).length ≤ c) => impl_IsSignMatrix.calls' A c (fkT l0) W hC hc)
      have HKI := Aside0.mk (fun (W : World) (A : Option Addr) (c : Nat) (hs : isSign (fkT l0) = true) (hC : Kd.C (Kd.slice 3 (Kd.int .i64)) W A (fkT l0).length (fkT l0)) (hc : (fkT l0).length ≤ c) => impl_kinds.calls A c (fkT l0) (kindsM (fkT l0)) W hC hc (by unfold impl_kinds.f; rw [if_pos hs]))
      have HCM := Aside0.mk (fun (W : World) (A : Option Addr) (c : Nat) (hC : Kd.C (Kd.slice 3 (Kd.int .i64)) W A (kindsM (fkT l0)).length (kindsM (fkT l0))) (h2 : Kd.C (Kd.slice 3 (Kd.int .i64)) W A0 l0.length l0) => impl_compareTables.calls' A c (kindsM (fkT l0)) A0 c0 l0 W hC h2)
      have hOD2 : fkOk l0 = (isSign (fkT l0) && (cmpT (kindsM (fkT l0)) l0 == 0)) := by rw [HOD.out, h1, h2]; rfl
      clear h1 h2 hrl HOD
      rw [fkT_length] at HSG HKI
      obtain ⟨T, hT⟩ : ∃ T, T = fkT l0 := ⟨_, rfl⟩
      have hT2 : tableL (fkF l0) l0.length l0.length = T := hT.symm
      rw [← hT] at HSG HKI HCM hOD2 HRD
      rw [hT2] at HTB HTR hTL
      have hTf := hT2
      clear hT hT2 hTf
      obtain ⟨K, hKK⟩ : ∃ K, K = kindsM T := ⟨_, rfl⟩
      have hKS := fun (hs : isSign T = true) => show (kindsM T).length = T.length from tableL_length _ _ _
      rw [← hKK] at HKI HCM hOD2 hKS
      clear hKK
      cases h3 : isSign T with
      | false =>
        have HO := Aside0.mk (show fkOk l0 = false by rw [hOD2, h3]; rfl)
        have HE := Aside0.mk (show fkR l0 = [] by rw [HRD.out, HO.out]; rfl)
        rw [h3] at HSG
        clear h3 hOD2 hKS
        have hx := HX.out
        have HTL := Aside0.mk hTL
        clear hTL
        go_enter Try.func45, Try.ntmps45
        go_wp2_with (first | (go_at_call 90; refine (hsd _).mono ?_; rintro e w1 ⟨rfl, hd⟩; have HB1 := Aside0.mk (below_step HB0.out hd.below); have hx1 := pw_cell_below hd.below hx; clear hd) | (go_at_call 91; refine (hsq _ HB1.out).mono ?_; rintro e w2 ⟨rfl, hb⟩; have HB2 := Aside0.mk (below_step HB1.out hb); have hx2 := pw_cell_below hb hx1; clear hb) | (go_at_call 92; refine (HTB.out _ HB2.out hx2).mono ?_; rintro e w3 ⟨g0, gs, rfl, hm, hb⟩; have hS := hm.S (by rw [HTL.out]; omega) (fun k hk => by rw [HTL.out] at hk; rw [HTR.out k hk]; omega); rw [HTL.out] at hS; have HCT := Aside0.mk (Kd.R_reads' (Kd.S_R hS)).2.2; rw [HTL.out] at HCT; rw [HTL.out]; have HB3 := Aside0.mk (below_step HB2.out hb); have hx3 := pw_cell_below hb hx2; clear hm hS hb))
        first | go_region_with (first | (go_at_call 65; refine (HSG.out _ _ _ (Kd.C_below HCT.out (by repeat (first | exact Below.refl _ _ | apply below_drew))) (Nat.le_refl _)).mono ?_; rintro e w4 ⟨rfl, hb4⟩)) | fail
        all_goals
          go_wp2
          go_ret2
          exact ⟨_, by rw [HO.out]; rfl, by rw [HE.out]; exact Kd.S_nil _ _ _ _ _, below_step HB3.out (below_step (by repeat (first | exact Below.refl _ _ | apply below_drew)) hb4)⟩
      | true =>
        rw [h3] at HSG
        have hs3 := Aside0.mk h3
        have hOD3 : fkOk l0 = (cmpT K l0 == 0) := by rw [hOD2, h3]; rfl
        clear h3 hOD2 hKS
        have hx := HX.out
        have HTL := Aside0.mk hTL
        clear hTL
        obtain ⟨z, hz⟩ : ∃ z, z = cmpT K l0 := ⟨_, rfl⟩
        rw [← hz] at hOD3 HCM
        clear hz
        by_cases hz0 : z = 0
        · have hzn : (z != 0) = false := by rw [hz0]; rfl
          have HO := Aside0.mk (show fkOk l0 = true by rw [hOD3, hz0]; rfl)
          have HE := Aside0.mk (show fkR l0 = T by rw [HRD.out, HO.out]; rfl)
          clear hOD3 hz0
          go_enter Try.func45, Try.ntmps45
          go_wp2_with (first | (go_at_call 90; refine (hsd _).mono ?_; rintro e w1 ⟨rfl, hd⟩; have HB1 := Aside0.mk (below_step HB0.out hd.below); have hx1 := pw_cell_below hd.below hx; clear hd) | (go_at_call 91; refine (hsq _ HB1.out).mono ?_; rintro e w2 ⟨rfl, hb⟩; have HB2 := Aside0.mk (below_step HB1.out hb); have hx2 := pw_cell_below hb hx1; clear hb) | (go_at_call 92; refine (HTB.out _ HB2.out hx2).mono ?_; rintro e w3 ⟨g0, gs, rfl, hm, hb⟩; have hS := hm.S (by rw [HTL.out]; omega) (fun k hk => by rw [HTL.out] at hk; rw [HTR.out k hk]; omega); rw [HTL.out] at hS; have HCT := Aside0.mk (Kd.R_reads' (Kd.S_R hS)).2.2; rw [HTL.out] at HCT; rw [HTL.out]; have HB3 := Aside0.mk (below_step HB2.out hb); have hx3 := pw_cell_below hb hx2; have HST := Aside0.mk hS; clear hm hS hb))
          go_region_held3 (fun W1 => W1.cell? ⟨w.heap.size, 0, none⟩ = some (.slice A0 l0.length c0) ∧ Below w3.heap.size w3 W1) (first | (refine ⟨by simp [*], ?_⟩; repeat (first | exact Below.refl _ _ | apply below_drew)) | (have hh_ := ‹_ ∧ Below w3.heap.size w3 _›; exact ⟨pw_cell_below hb4 hh_.1, below_step hh_.2 hb4⟩)) (first | (go_at_call 65; have hh_ := ‹_ ∧ Below w3.heap.size w3 _›; refine (HSG.out _ _ _ (Kd.C_below HCT.out hh_.2) (Nat.le_refl _)).mono ?_; (try clear hb4); clear hh_; rintro e w4 ⟨rfl, hb4⟩) | (go_at_call 63; have hh_ := ‹_ ∧ Below w3.heap.size w3 _›; refine (HKI.out _ _ _ hs3.out (Kd.C_below HCT.out hh_.2) (Nat.le_refl _)).mono ?_; (try clear hb4); clear hh_; rintro e w5 ⟨v5, rfl, hS5, hb4⟩; obtain ⟨A5, c5, rfl⟩ := Kd.R_slice (Kd.S_R hS5); have HC5 := Aside0.mk (Kd.R_reads' (Kd.S_R hS5)).2.2; have HW5 := Aside0.mk (Below.refl w5.heap.size w5); clear hS5) | (go_at_call 95; have hh_ := ‹_ ∧ Below w3.heap.size w3 _›; refine (HCM.out _ _ _ (Kd.C_below HC5.out (by repeat (first | exact HW5.out | apply below_drew))) (Kd.C_below HR0.out (below_step HB3.out hh_.2))).mono ?_; (try clear hb4); clear hh_; rintro e w6 ⟨rfl, hb4⟩))
          all_goals
            go_wp2
            go_ret2
            have hh_ := ‹_ ∧ Below w3.heap.size w3 _›
            exact ⟨_, by rw [HO.out]; rfl, by rw [HE.out]; exact Kd.S_kept (Kd.S_lower HST.out HB2.out.size) (Kept.of_below hh_.2 (fun _ => False)) (fun _ _ h => h), below_step HB3.out hh_.2⟩
        · have hzn : (z != 0) = true := by rw [bne_iff_ne]; exact hz0
          have HO := Aside0.mk (show fkOk l0 = false by rw [hOD3]; simpa using hz0)
          have HE := Aside0.mk (show fkR l0 = [] by rw [HRD.out, HO.out]; rfl)
          clear hOD3 hz0
          go_enter Try.func45, Try.ntmps45
          go_wp2_with (first | (go_at_call 90; refine (hsd _).mono ?_; rintro e w1 ⟨rfl, hd⟩; have HB1 := Aside0.mk (below_step HB0.out hd.below); have hx1 := pw_cell_below hd.below hx; clear hd) | (go_at_call 91; refine (hsq _ HB1.out).mono ?_; rintro e w2 ⟨rfl, hb⟩; have HB2 := Aside0.mk (below_step HB1.out hb); have hx2 := pw_cell_below hb hx1; clear hb) | (go_at_call 92; refine (HTB.out _ HB2.out hx2).mono ?_; rintro e w3 ⟨g0, gs, rfl, hm, hb⟩; have hS := hm.S (by rw [HTL.out]; omega) (fun k hk => by rw [HTL.out] at hk; rw [HTR.out k hk]; omega); rw [HTL.out] at hS; have HCT := Aside0.mk (Kd.R_reads' (Kd.S_R hS)).2.2; rw [HTL.out] at HCT; rw [HTL.out]; have HB3 := Aside0.mk (below_step HB2.out hb); have hx3 := pw_cell_below hb hx2; have HST := Aside0.mk hS; clear hm hS hb))
          go_region_held3 (fun W1 => W1.cell? ⟨w.heap.size, 0, none⟩ = some (.slice A0 l0.length c0) ∧ Below w3.heap.size w3 W1) (first | (refine ⟨by simp [*], ?_⟩; repeat (first | exact Below.refl _ _ | apply below_drew)) | (have hh_ := ‹_ ∧ Below w3.heap.size w3 _›; exact ⟨pw_cell_below hb4 hh_.1, below_step hh_.2 hb4⟩)) (first | (go_at_call 65; have hh_ := ‹_ ∧ Below w3.heap.size w3 _›; refine (HSG.out _ _ _ (Kd.C_below HCT.out hh_.2) (Nat.le_refl _)).mono ?_; (try clear hb4); clear hh_; rintro e w4 ⟨rfl, hb4⟩) | (go_at_call 63; have hh_ := ‹_ ∧ Below w3.heap.size w3 _›; refine (HKI.out _ _ _ hs3.out (Kd.C_below HCT.out hh_.2) (Nat.le_refl _)).mono ?_; (try clear hb4); clear hh_; rintro e w5 ⟨v5, rfl, hS5, hb4⟩; obtain ⟨A5, c5, rfl⟩ := Kd.R_slice (Kd.S_R hS5); have HC5 := Aside0.mk (Kd.R_reads' (Kd.S_R hS5)).2.2; have HW5 := Aside0.mk (Below.refl w5.heap.size w5); clear hS5) | (go_at_call 95; have hh_ := ‹_ ∧ Below w3.heap.size w3 _›; refine (HCM.out _ _ _ (Kd.C_below HC5.out (by repeat (first | exact HW5.out | apply below_drew))) (Kd.C_below HR0.out (below_step HB3.out hh_.2))).mono ?_; (try clear hb4); clear hh_; rintro e w6 ⟨rfl, hb4⟩))
          all_goals
            go_wp2
            go_ret2
            have hh_ := ‹_ ∧ Below w3.heap.size w3 _›
            exact ⟨_, by rw [HO.out]; rfl, by rw [HE.out]; exact Kd.S_nil _ _ _ _ _, below_step HB3.out hh_.2⟩
end Go.Proofs.Ytlpadkbpbmoliaa
