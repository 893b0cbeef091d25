/- Texts of one chain, in build order. -/
import Derived.Test.YtkiloimggmpggaaYCondenseSteps16
namespace Go.Proofs.Ytkiloimggmpggaa.L
open Go.RowKit Go.Proofs.Ytkiloimggmpggaa Go.Proofs.Ytkiloimggmpggaa.P Go.Proofs.YtkiloimggmpggaaW.PrintWords Go.Proofs.YtkiloimggmpggaaW.PrintLast Go.Proofs.YtkiloimggmpggaaW.PrintMore
set_option linter.unusedVariables false
set_option linter.unusedSimpArgs false

theorem info_rtab : (Try.prog.info? 32).map (fun i => (i.zero, i.size, i.bytes)) = some (some (.slice none 0 0), 1, 24) := by kernel_rfl
theorem madeNils (m : Nat) : madeCells #[Value.slice none 0 0] m = (List.replicate m nilV).toArray := by
 apply Array.ext
 ·simp [madeCells]
 ·intro i h1 h2; simp [madeCells, Nat.mod_one, nilV]
theorem Slots.made {W : World} {g m : Nat} (h : W.heap[g]? = some (.cells (madeCells #[Value.slice none 0 0] m) 53 (0, 0))) : Slots W g (List.replicate m nilV) := by unfold Slots; rw [← madeNils]; exact h
theorem held9 {w W : World} {p1 p2 p3 p4 p5 p6 p7 p8 : Addr} {v1 v2 v3 v4 v5 v6 v7 v8 : Value} (hb : Below w.heap.size w W) (h1 : w.cell? p1 = some v1) (h2 : w.cell? p2 = some v2) (h3 : w.cell? p3 = some v3) (h4 : w.cell? p4 = some v4) (h5 : w.cell? p5 = some v5) (h6 : w.cell? p6 = some v6) (h7 : w.cell? p7 = some v7) (h8 : w.cell? p8 = some v8) :
  W.cell? p1 = some v1 ∧ W.cell? p2 = some v2 ∧ W.cell? p3 = some v3 ∧ W.cell? p4 = some v4 ∧ W.cell? p5 = some v5 ∧ W.cell? p6 = some v6 ∧ W.cell? p7 = some v7 ∧ W.cell? p8 = some v8 ∧ Below w.heap.size w W := ⟨pw_cell_below hb h1, pw_cell_below hb h2, pw_cell_below hb h3, pw_cell_below hb h4, pw_cell_below hb h5, pw_cell_below hb h6, pw_cell_below hb h7, pw_cell_below hb h8, hb⟩
theorem bits_small {n1 : Nat} (h2 : 2 ≤ n1) (h5 : n1 ≤ 5) : bits_Mul.f 1 (n1 : Int) = some (0, (n1 : Int)) := by
 have : n1 = 2 ∨ n1 = 3 ∨ n1 = 4 ∨ n1 = 5 := by omega
 rcases this with rfl | rfl | rfl | rfl <;> decide +kernel
theorem row_qS2 (row : List Int) (h : ∀ j : Nat, j < row.length → 1 ≤ rd row (j : Int)) : (row.map fun x => (⟨x.toNat, 1⟩ : Q)).map qS = row.map fun x => (⟨x, 1⟩ : S25) := by
 have h2 := row_qS row h
 unfold flat at h2
 rw [List.flatten_cons, List.flatten_nil, List.append_nil] at h2
 exact h2
theorem tS_bef0 (n : Nat) : tS (bef0 n) = List.replicate (n + 1) (List.replicate (n + 1) ⟨1, 1⟩) := by simp [tS, bef0, qS]
set_option maxHeartbeats 8000000 in
set_option maxRecDepth 100000 in
theorem impl_condense.callsG (A0 : Option Addr) (c0 : Nat) (l0 : List (List Int)) (lam : Nat) (hlam : lam ≤ 3) (w : World) (hr0 : Kd.C (Kd.slice 3 (Kd.int .i64)) w A0 l0.length l0) (hc0 : l0.length ≤ c0)
  (h1 : 1 ≤ l0.length) (h4 : l0.length ≤ 4) (hrl : ∀ i, i < l0.length → (l0.getD i []).length = l0.length) (hrv : ∀ i j : Nat, i < l0.length → j < l0.length → 1 ≤ rd (l0.getD i []) (j : Int) ∧ rd (l0.getD i []) (j : Int) ≤ 4) :
  Calls Try.prog 41 #[.slice A0 l0.length c0, .int .i64 lam] w fun e w' => ∃ v0_ : Value, e = .returned v0_ ∧ Kd.N (Kd.slice 53 (Kd.slice 25 k25)) 32 w' w.heap.size (fun k_ => (w.heap.size ≤ k_)) v0_ ((stepsQ lam (l0.length - 1) (bef0 l0.length) (now0 l0)).map tS) ∧ Below w.heap.size w w' := by
 obtain ⟨n, hn⟩ : ∃ n, n = l0.length := ⟨_, rfl⟩
 obtain ⟨n1, hn1⟩ : ∃ n1, n1 = n + 1 := ⟨_, rfl⟩
 have hw1 : IntKind.i64.wrap ((l0.length : Int) + 1) = (n1 : Int) := pw_s _ _ (by omega) (by omega)
 have HBI := Aside0.mk (bits_small (n1 := n1) (by omega) (by omega))
 have HB := Aside0.mk (Below.refl w.heap.size w)
 have HR0 := Aside0.mk hr0
 have HFX := Aside0.mk (And.intro hn hn1)
 have HRL := Aside0.mk hrl
 have HRV := Aside0.mk hrv
 have mk1 : ∀ W : World, Sem.run Try.prog (Instr.makeSlice 32 (.int .i64 n1) (.int .i64 n1)) W = Result.ok (Value.slice (some ⟨W.heap.size, 0, none⟩) n1 n1) (W.alloc (.cells (madeCells #[.slice none 0 0] n1) 53)) := fun W => run_make_row' (P := Try.prog) 32 53 (.slice none 0 0) 24 Try.underlying32 info_rrow rfl .i64 .i64 n1 (by omega) (by omega) W
 have mk2 : ∀ W : World, Sem.run Try.prog (Instr.makeSlice 32 (.int .i64 l0.length) (.int .i64 l0.length)) W = Result.ok (Value.slice (some ⟨W.heap.size, 0, none⟩) l0.length l0.length) (W.alloc (.cells (madeCells #[.slice none 0 0] l0.length) 53)) := fun W => run_make_row' (P := Try.prog) 32 53 (.slice none 0 0) 24 Try.underlying32 info_rrow rfl .i64 .i64 l0.length (by omega) (by omega) W
 clear hr0 hrl hrv hn hn1
 go_enter Try.func41, Try.ntmps41
 go_upto_region 2 with (fail)
 go_cut [6, 7] (fun v6 v7 wc => ∃ g6 g7 : Nat, v6 = .slice (some ⟨g6, 0, none⟩) n1 n1 ∧ v7 = .slice (some ⟨g7, 0, none⟩) l0.length l0.length ∧ Aside0 (g6 ≠ g7 ∧ w.heap.size ≤ g6 ∧ w.heap.size ≤ g7) ∧ Aside0 (Slots wc g6 (List.replicate n1 nilV)) ∧ Aside0 (Slots wc g7 (List.replicate l0.length nilV)) ∧ Aside0 (Below w.heap.size w wc))
 case first =>
  go_region
  all_goals
   go_wp2
   go_meet
   case rel =>
    exact ⟨_, _, rfl, rfl, ⟨by omega, by omega, by omega⟩, ⟨Slots.made (by repeat (first | with_reducible exact blk_new_at (by simp) | with_reducible refine blk_alloc ?_ _ | with_reducible refine blk_drew ?_))⟩, ⟨Slots.made (by repeat (first | with_reducible exact blk_new_at (by simp) | with_reducible refine blk_alloc ?_ _ | with_reducible refine blk_drew ?_))⟩, ⟨by repeat (first | with_reducible exact HB.out | with_reducible refine below_alloc ?_ _ | with_reducible refine below_drew ?_)⟩⟩
 case rest =>
  clear HB mk1 mk2
  obtain ⟨g6, g7, rfl, rfl, HGG, HS6, HS7, HBK⟩ := hcut
  obtain ⟨wK, rfl⟩ : ∃ x : World, x = wc := ⟨_, rfl⟩
  have HB := Aside0.mk (And.intro HBK.out (Nat.le_refl wK.heap.size))
  have HRF := Aside0.mk (RowsF.nil wK (fun k => wK.heap.size ≤ k))
  have HLT := Aside0.mk (And.intro HS6.out.lt HS7.out.lt)
  go_wp2
  go_loopg [28] n1 (fun gg s28 wr => ∃ (i : Nat) (vs : List Value), i ≤ n1 ∧ n1 - i ≤ gg ∧ s28 = .int .i64 i ∧ Aside0 (Slots wr g6 (vs ++ List.replicate (n1 - i) nilV)) ∧ Aside0 (RowsF wr (fun k => wK.heap.size ≤ k) vs (List.replicate i (List.replicate n1 ⟨1, 1⟩))) ∧ Aside0 (Slots wr g7 (List.replicate l0.length nilV)) ∧ Aside0 (Below w.heap.size w wr ∧ wK.heap.size ≤ wr.heap.size))
  case atStart => exact ⟨0, [], Nat.zero_le _, Nat.le_refl _, rfl, HS6, HRF, HS7, HB⟩
  case round =>
   clear HS6 HRF HS7 HB
   obtain ⟨i, vs, hi, hg, rfl, HS6, HRF, HS7, HB⟩ := hrel
   have HFN1 := HFX.out
   have hn15 : n1 ≤ 5 := by omega
   by_cases hlt : i < n1
   ·have hz : (i : Int) < (n1 : Int) := by omega
    have hz0 : (0 : Int) ≤ (i : Int) := by omega
    have hvl : vs.length = i := by rw [HRF.out.1, List.length_replicate]
    have HIG := Aside0.mk (And.intro hi (And.intro hg hlt))
    have HVL := Aside0.mk hvl
    have HN15 := Aside0.mk (And.intro hn15 (show 1 ≤ n1 by omega))
    have hnils := nils_succ (n1 - i) (by omega)
    have HSX := Aside0.mk (show Slots wr g6 (vs ++ nilV :: List.replicate (n1 - i - 1) nilV) by rw [← hnils]; exact HS6.out)
    clear hi hg hvl HS6 hnils HFN1 hn15
    go_wp2_with (go_at_call 62; refine (slices_RepeatR.calls wr.heap.size n1 _ HN15.out.2 (by have := HN15.out.1; omega) HBI.out (blk_cell (blk_new wr _) 0) (blk_cell (blk_new wr _) 1)).mono ?_; rintro e w5 ⟨g2, rfl, hg2, hblk, hb⟩; have hb5 : Below wr.heap.size wr w5 := below_step (below_alloc (Below.refl _ _) _) hb; have hcs : w5.cell? ⟨g6, i, none⟩ = some (.slice none 0 0) := (HSX.out.below hb5).cell i nilV (get_mid _ _ _ _ HVL.out); have hfz : w5.frozen? ⟨g6, i, none⟩ = false := (HSX.out.below hb5).frozen i; have HB5 := Aside0.mk hb5; have HG2 := Aside0.mk (Nat.le_trans (below_alloc (Below.refl wr.heap.size wr) _).size hg2); have HBL := Aside0.mk hblk; clear hb hb5 hg2 hblk)
    go_roundg (n1 - (i + 1))
    case measure => have := HIG.out; omega
    case rel =>
     have hgg := HGG.out
     have hsz := HB.out.2
     have hl2 := HLT.out
     refine ⟨i + 1, vs ++ [.slice (some ⟨g2, 0, none⟩) n1 n1], by have := HIG.out; omega, Nat.le_refl _, by have h9 := HN15.out.1; first | go_num | (congr 1; first | exact wrapS _ (by omega) | exact (wrapS _ (by omega)).symm | (unfold wrap64; omega)), ?_, ?_, ?_, ⟨below_set (below_step HB.out.1 HB5.out) hgg.2.1, Nat.le_trans hsz (by have := HB5.out.size; simpa using this)⟩⟩
     ·refine ⟨?_⟩
      have h := (HSX.out.below HB5.out).put i (.slice (some ⟨g2, 0, none⟩) n1 n1)
      have hv := HVL.out
      subst hv
      rw [set_mid] at h
      rw [List.append_assoc, show n1 - (vs.length + 1) = n1 - vs.length - 1 by omega]
      exact h
     ·refine ⟨?_⟩
      rw [List.replicate_succ']
      refine RowsF.step ((HRF.out.below HB5.out).snoc (by rw [List.length_replicate]) (Nat.le_refl _) (Kd.F_mono (ones_F (by have := HN15.out.1; omega) HBL.out) (fun k hk => by subst hk; exact Nat.le_trans hsz HG2.out))) (fun k hk _ => Below.heap_setCell _ _ _ _ (by have hk' : wK.heap.size ≤ k := hk; dsimp only; omega))
     ·exact ⟨(HS7.out.below HB5.out).of_eq (Below.heap_setCell _ _ _ _ (show g7 ≠ g6 from fun e => hgg.1 e.symm))⟩
   ·have hz : ¬ (i : Int) < (n1 : Int) := by omega
    have hin : i = n1 := by omega
    have HTB := Aside0.mk (show Kd.F (Kd.slice 25 k25) wr (fun k => (wK.heap.size ≤ k ∧ k < wr.heap.size) ∨ k = g6) (some ⟨g6, 0, none⟩) n1 (tS (bef0 l0.length)) by
     have hr := HRF.out
     have hs := HS6.out
     rw [hin] at hr
     rw [hin, Nat.sub_self, List.replicate_zero, List.append_nil] at hs
     have h := hr.bound.table hs (by rw [List.length_replicate]; omega)
     rw [List.length_replicate] at h
     rw [tS_bef0, ← HFX.out.1, ← HFX.out.2]
     exact h)
    obtain ⟨wb, rfl⟩ : ∃ x : World, x = wr := ⟨_, rfl⟩
    have HBW := Aside0.mk HB.out.1
    have HKW := Aside0.mk HB.out.2
    have HRF := Aside0.mk (RowsF.nil wb (fun k => wb.heap.size ≤ k))
    have HB := Aside0.mk (And.intro HBW.out (Nat.le_refl wb.heap.size))
    have HL7 := Aside0.mk HS7.out.lt
    have HTBO := Aside0.mk (Kd.F_mono (ok' := fun k => k < wb.heap.size ∧ k ≠ g7 ∧ w.heap.size ≤ k) HTB.out (fun k hk => by
     have hgg := HGG.out
     have hl2 := HLT.out
     have hbs := HBK.out.size
     rcases hk with hk | hk
     ·exact ⟨hk.2, by omega, by omega⟩
     ·subst hk; exact ⟨by have := HKW.out; omega, hgg.1, hgg.2.1⟩))
    clear HS6 HTB hi hg hlt hin HFN1 hn15
    go_wp2
    go_loopg [42] l0.length (fun gg s42 wr => ∃ (i : Nat) (vs : List Value), i ≤ l0.length ∧ l0.length - i ≤ gg ∧ s42 = .int .i64 i ∧ Aside0 (Slots wr g7 (vs ++ List.replicate (l0.length - i) nilV)) ∧ Aside0 (RowsF wr (fun k => wb.heap.size ≤ k) vs (tS (now0 (l0.take i)))) ∧ Aside0 (Kd.F (Kd.slice 25 k25) wr (fun k => k < wb.heap.size ∧ k ≠ g7 ∧ w.heap.size ≤ k) (some ⟨g6, 0, none⟩) n1 (tS (bef0 l0.length))) ∧ Aside0 (Below w.heap.size w wr ∧ wb.heap.size ≤ wr.heap.size))
    case atStart => exact ⟨0, [], Nat.zero_le _, Nat.le_refl _, rfl, HS7, HRF, HTBO, HB⟩
    case round =>
     clear HS7 HRF HTBO HB
     obtain ⟨i, vs, hi, hg, rfl, HS7, HRF, HTBO, HB⟩ := hrel
     by_cases hlt : i < l0.length
     ·have hz : (i : Int) < (l0.length : Int) := by omega
      obtain ⟨ad, A1, c1, eA, hcell, hc1, hC1⟩ := at_L1 HR0.out (i : Int) (by omega) (by omega)
      subst eA
      rw [rd1_get, Int.toNat_natCast] at hcell
      rw [rd1_get] at hc1 hC1
      obtain ⟨row, hrow⟩ : ∃ r, r = l0.getD i [] := ⟨_, rfl⟩
      have hrl2 := HRL.out i hlt
      rw [← hrow] at hcell hc1 hC1 hrl2
      have hx := pw_cell_below HB.out.1 hcell
      have HC1 := Aside0.mk hC1
      have hvl : vs.length = i := by rw [HRF.out.1]; simp [tS, now0]; omega
      have HVL := Aside0.mk hvl
      have HIG := Aside0.mk (And.intro hi (And.intro hg hlt))
      have HPR := Aside0.mk (show tS (now0 (l0.take (i + 1))) = tS (now0 (l0.take i)) ++ [(row.map fun x => (⟨x.toNat, 1⟩ : Q)).map qS] by
       unfold now0 tS
       rw [List.take_succ_eq_append_getElem hlt, List.map_append, List.map_append, hrow, List.getD_eq_getElem?_getD, List.getElem?_eq_getElem hlt]; rfl)
      have HRV2 := Aside0.mk (fun j hj => HRV.out i j hlt hj)
      rw [← hrow] at HRV2
      have hzl : (row.length : Int) = (l0.length : Int) := by omega
      have hzi : (0 : Int) ≤ (i : Int) := by omega
      obtain ⟨wo, rfl⟩ : ∃ wo : World, wo = wr := ⟨_, rfl⟩
      have HSX := Aside0.mk (show Slots wo g7 (vs ++ nilV :: List.replicate (l0.length - i - 1) nilV) by rw [← nils_succ (l0.length - i) (by omega)]; exact HS7.out)
      have HRW := Aside0.mk (Kd.R_nil k25 25 wo w.heap.size (fun k => wo.heap.size ≤ k))
      have HWB := Aside0.mk HB.out.2
      have HRFO := Aside0.mk HRF.out.bound
      have HB := Aside0.mk (And.intro HB.out.1 (Nat.le_refl wo.heap.size))
      clear hi hg hC1 hcell hrow hvl HS7 HRF
      go_wp2
      go_loopg [49] row.length (fun gg s49 wq => ∃ (j : Nat) (u : Value), j ≤ row.length ∧ row.length - j ≤ gg ∧ s49 = .int .i64 j ∧ Aside0 (Slots wq g7 (vs ++ u :: List.replicate (l0.length - i - 1) nilV)) ∧ Aside0 (Kd.R k25 25 wq w.heap.size (fun k => wo.heap.size ≤ k) u ((row.take j).map fun x => (⟨x, 1⟩ : S25))) ∧ Aside0 (RowsF wq (fun k => wb.heap.size ≤ k ∧ k < wo.heap.size) vs (tS (now0 (l0.take i)))) ∧ Aside0 (Kd.F (Kd.slice 25 k25) wq (fun k => k < wb.heap.size ∧ k ≠ g7 ∧ w.heap.size ≤ k) (some ⟨g6, 0, none⟩) n1 (tS (bef0 l0.length))) ∧ Aside0 (Below w.heap.size w wq ∧ wo.heap.size ≤ wq.heap.size))
      case atStart => exact ⟨0, nilV, Nat.zero_le _, Nat.le_refl _, rfl, HSX, HRW, HRFO, HTBO, HB⟩
      case round =>
       clear HSX HRW HRFO HTBO HB
       obtain ⟨j, u, hj, hgj, rfl, HSX, HRW, HRFO, HTBO, HB⟩ := hrel
       by_cases hjt : j < row.length
       ·have hjz : (j : Int) < (row.length : Int) := by omega
        obtain ⟨ad2, e2, hy⟩ := Kd.at_int (Kd.C_below HC1.out HB.out.1) (j : Int) (by omega) hjz
        subst e2
        rw [Int.toNat_natCast] at hy
        obtain ⟨x, hxx⟩ : ∃ x, x = rd row (j : Int) := ⟨_, rfl⟩
        rw [← hxx] at hy
        have hsc : wr.cell? ⟨g7, i, none⟩ = some u := HSX.out.cell i u (get_mid _ _ _ _ HVL.out)
        have HST := Aside0.mk (show ((row.take (j + 1)).map fun x => (⟨x, 1⟩ : S25)) = ((row.take j).map fun x => (⟨x, 1⟩ : S25)) ++ [⟨x, 1⟩] by
         rw [List.take_succ_eq_append_getElem hjt, List.map_append, hxx, rd_at row j hjt]; rfl)
        have HL := Aside0.mk (show (((row.take j).map fun x => (⟨x, 1⟩ : S25)).length + 1) * 16 ≤ 140737488355328 by
         rw [List.length_map, List.length_take]; omega)
        have HJG := Aside0.mk (And.intro hj (And.intro hgj hjt))
        have HGU := Aside0.mk (show some g7 ≠ u.ownBlock from fun e => by have h1 := HRW.out.1 g7 e.symm; have h2 := HL7.out; have h3 := HWB.out; omega)
        clear hj hgj hxx
        go_wp2_with ((with_reducible refine gate_builtin (b := .append) (xs := #[.tmp 58, .tmp 61]) rfl ?_); at_builtin; refine Kd.R_append k25 (w0 := w) w.heap.size rfl (.tmp 58) (.tmp 61) 53 25 (.agg #[.int .i64 0, .int .i64 0]) 16 rfl Try.underlying53 info_ratio rfl (by decide) (by omega) u ((row.take j).map fun x => (⟨x, 1⟩ : S25)) ⟨x, 1⟩ [.int .i64 x, .int .i64 1] (fun k => wo.heap.size ≤ k) (fun _ => False) rfl rfl ?aP ?aF ?aO ?aH ?aB ?aS ?aL ?_; (case aP => exact k25_mkM _ _ _ _); (case aF => exact fun _ hk => hk.elim); (case aO => exact fun k hk => Nat.le_trans HB.out.2 hk); (case aH => exact HRW.out); (case aB => exact HB.out.1); (case aS => exact HB.out.1.size); (case aL => exact HL.out); intro v8 w8 ho hb hg hat; rw [← HST.out] at ho; obtain ⟨A8, c8, e8⟩ := Kd.R_slice ho; obtain ⟨L8, eL⟩ : ∃ L, L = ((row.take (j + 1)).map fun x => (⟨x, 1⟩ : S25)).length := ⟨_, rfl⟩; rw [← eL] at e8; subst e8; have HLE := Aside0.mk eL; clear eL; have hs8 : Slots w8 g7 (vs ++ u :: List.replicate (l0.length - i - 1) nilV) := HSX.out.of_eq (hg.block g7 HSX.out.lt HGU.out); have hsc8 := hs8.cell i u (get_mid _ _ _ _ HVL.out); have hsf8 := hs8.frozen i; have HS8 := Aside0.mk hs8; have HR8 := Aside0.mk ho; have HB8 := Aside0.mk hb; have HG8 := Aside0.mk hg; clear ho hb hg hat hs8 hsc)
        go_roundg (row.length - (j + 1))
        case measure => have := HJG.out; omega
        case rel =>
         have hl7 := HL7.out
         have hwb := HWB.out
         refine ⟨j + 1, .slice A8 L8 c8, by have := HJG.out; omega, Nat.le_refl _, by first | go_num | (congr 1; first | exact wrapS _ (by omega) | exact (wrapS _ (by omega)).symm | (unfold wrap64; omega)), ?_, ?_, ?_, ?_, ⟨below_set HB8.out HGG.out.2.2, Nat.le_trans HB.out.2 (by have := HG8.out.size; simpa using this)⟩⟩
         ·refine ⟨?_⟩
          have h := HS8.out.put i (.slice A8 L8 c8)
          have hv := HVL.out
          subst hv
          rw [set_mid] at h
          exact h
         ·exact ⟨Kd.R_far (p := ⟨g7, i, none⟩) HR8.out (fun k hk => by have hk' : wo.heap.size ≤ k := hk; dsimp only; omega) _⟩
         ·refine ⟨RowsF.step (HRFO.out.step (fun k hk hlt => HG8.out.block k hlt (fun e => by have h2 := HRW.out.1 k e.symm; have h3 := hk.2; omega))) (fun k hk _ => Below.heap_setCell _ _ _ _ (by have h2 := hk.1; dsimp only; omega))⟩
         ·refine ⟨Kd.F_far (p := ⟨g7, i, none⟩) (Kd.F_step HTBO.out (fun k hk hlt => HG8.out.block k hlt (fun e => by have h2 := HRW.out.1 k e.symm; have h3 := hk.1; omega))) (fun k hk => hk.2.1) _⟩
       ·have hjz : ¬ (j : Int) < (row.length : Int) := by omega
        have HR2 := Aside0.mk (show Kd.R k25 25 wr w.heap.size (fun k => wo.heap.size ≤ k) u ((row.map fun x => (⟨x.toNat, 1⟩ : Q)).map qS) by
         have h := HRW.out
         rw [List.take_of_length_le (by omega), ← row_qS2 row (fun k hk => (HRV2.out k (by omega)).1)] at h
         exact h)
        obtain ⟨A8, c8, e8⟩ := Kd.R_slice HR2.out
        obtain ⟨L8, eL⟩ : ∃ L, L = ((row.map fun x => (⟨x.toNat, 1⟩ : Q)).map qS).length := ⟨_, rfl⟩
        rw [← eL] at e8
        subst e8
        have HLE := Aside0.mk eL
        clear hj hgj hjt eL HRW
        go_wp2
        go_roundg (l0.length - (i + 1))
        case measure => have := HIG.out; omega
        case rel =>
         have hwb := HWB.out
         refine ⟨i + 1, vs ++ [.slice A8 L8 c8], by have := HIG.out; omega, Nat.le_refl _, by first | go_num | (congr 1; first | exact wrapS _ (by omega) | exact (wrapS _ (by omega)).symm | (unfold wrap64; omega)), ?_, ?_, HTBO, ⟨HB.out.1, Nat.le_trans hwb HB.out.2⟩⟩
         ·refine ⟨?_⟩
          have h := HSX.out
          rw [List.append_assoc, show l0.length - (i + 1) = l0.length - i - 1 by omega]
          exact h
         ·refine ⟨?_⟩
          rw [HPR.out]
          have hR := HR2.out
          have hrd := (Kd.R_reads' hR).2.1
          exact (HRFO.out.mono (fun k hk => hk.1)).snoc HLE.out hrd (Kd.F_mono (Kd.R_F hR) (fun k hk => Nat.le_trans hwb hk))
     ·have hz : ¬ (i : Int) < (l0.length : Int) := by omega
      have hin : i = l0.length := by omega
      have hsq := now0_Sq HRL.out HRV.out
      have hsb := bef0_Sq l0.length
      have HTN := Aside0.mk (show Kd.F (Kd.slice 25 k25) wr (fun k => (wb.heap.size ≤ k ∧ k < wr.heap.size) ∨ k = g7) (some ⟨g7, 0, none⟩) l0.length (tS (now0 l0)) by
       have hr := HRF.out
       have hs := HS7.out
       rw [hin, List.take_length] at hr
       rw [hin, Nat.sub_self, List.replicate_zero, List.append_nil] at hs
       have h := hr.bound.table hs (by rw [hsq.tS_len]; omega)
       rw [hsq.tS_len] at h
       exact h)
      have HL7' := Aside0.mk HS7.out.lt
      have HO := Aside0.mk (one_N (d := Kd.slice 25 k25) (e := 32) (e1 := 53) (W := wr) (ok := fun k => w.heap.size ≤ k) (okp := fun k => w.heap.size ≤ k ∧ k < wr.heap.size) (x := tS (now0 l0)) (u := .slice (some ⟨g7, 0, none⟩) l0.length l0.length) (by
       have h := Kd.FK_slice_mk (e := 53) (c := l0.length) (l := tS (now0 l0)) (by rw [hsq.tS_len]; exact Nat.le_refl _) (by rw [hsq.tS_len]; exact HTN.out)
       rw [hsq.tS_len] at h
       refine Kd.FK_mono h (fun k hk => ?_)
       have hgg := HGG.out
       have hbs := HBW.out.size
       have hl7 := HL7'.out
       rcases hk with hk | hk
       ·exact ⟨by omega, hk.2⟩
       ·subst hk; exact ⟨hgg.2.2, hl7⟩) (fun k hk => hk.1) (Nat.le_trans HBW.out.size HB.out.2) (fun k hk => hk.2))
      obtain ⟨wa, hwa⟩ : ∃ wa, wa = wr.alloc (.cells #[.slice (some ⟨g7, 0, none⟩) l0.length l0.length] 32) := ⟨_, rfl⟩
      have HBA := Aside0.mk (show Below wr.heap.size wr wa by rw [hwa]; exact below_alloc (Below.refl _ _) _)
      rw [← hwa] at HO
      have HWA := Aside0.mk hwa
      obtain ⟨ALL, hALL⟩ : ∃ L, L = stepsQ lam (l0.length - 1) (bef0 l0.length) (now0 l0) := ⟨_, rfl⟩
      have HALL := Aside0.mk hALL
      have HSQ := Aside0.mk hsq
      have HSB0 := Aside0.mk hsb
      have HNW := Aside0.mk (below_step HB.out.1 HBA.out)
      have HSZ0 := Aside0.mk (And.intro HBW.out.size HB.out.2)
      clear hi hg hlt hin hsq hsb hwa hALL HS7 HRF
      go_wp2
      rw [← HWA.out]
      go_loopg [6, 7, 13] l0.length (fun gg s6 s7 s13 wq => ∃ (d m m1 : Nat) (bef now : List (List Q)) (pre : List (List (List Q))) (Ab : Option Addr) (cb : Nat) (An : Option Addr) (cn : Nat),
       s6 = .slice Ab m1 cb ∧ s7 = .slice An m cn ∧ d ≤ gg ∧ Aside0 (m = d + 1 ∧ m1 = m + 1 ∧ d + 1 ≤ l0.length ∧ m ≤ cn) ∧
       Aside0 (Sq bef m1 (bN (l0.length - m)) (bD (l0.length - m))) ∧ Aside0 (Sq now m (bN (l0.length - m + 1)) (bD (l0.length - m + 1))) ∧ Aside0 (pre ++ stepsQ lam d bef now = ALL) ∧
       Aside0 (Kd.F (Kd.slice 25 k25) wq (okF w.heap.size s13) Ab m1 (tS bef)) ∧ Aside0 (Kd.F (Kd.slice 25 k25) wq (okF w.heap.size s13) An m (tS now)) ∧
       Aside0 (Kd.N (Kd.slice 53 (Kd.slice 25 k25)) 32 wq w.heap.size (fun k => w.heap.size ≤ k) s13 ((pre ++ [now]).map tS)) ∧ Aside0 (Below w.heap.size w wq))
      case atStart =>
       have hfx := HFX.out
       refine ⟨l0.length - 1, l0.length, n1, bef0 l0.length, now0 l0, [], _, n1, _, l0.length, rfl, rfl, by omega, ⟨by omega, by rw [hfx.2, hfx.1], by omega, Nat.le_refl _⟩, ?_, ?_, ?_, ?_, ?_, ?_, HNW⟩
       ·rw [Nat.sub_self, show n1 = l0.length + 1 by rw [hfx.2, hfx.1]]; exact HSB0
       ·rw [Nat.sub_self]; exact HSQ
       ·exact ⟨by rw [List.nil_append]; exact HALL.out.symm⟩
       ·exact ⟨Kd.F_mono (Kd.F_bound (Kd.F_below HTBO.out HBA.out)) (fun k hk => ⟨hk.1.2.2, fun e => by
         have : k = wr.heap.size := by simpa [Value.ownBlock] using e
         have := HSZ0.out.2; have := hk.1.1; omega⟩)⟩
       ·exact ⟨Kd.F_mono (Kd.F_below HTN.out HBA.out) (fun k hk => by
         have hgg := HGG.out
         have hl7 := HL7'.out
         have hs0 := HSZ0.out
         rcases hk with hk | hk
         ·exact ⟨by omega, fun e => by
           have : k = wr.heap.size := by simpa [Value.ownBlock] using e
           omega⟩
         ·subst hk
          exact ⟨hgg.2.2, fun e => by
           have : k = wr.heap.size := by simpa [Value.ownBlock] using e
           omega⟩)⟩
       ·exact ⟨Kd.N_lower HO.out (Nat.le_trans HSZ0.out.1 HSZ0.out.2)⟩
      case round =>
       clear HO HTN HTBO HSQ HSB0 HNW
       obtain ⟨d, m, m1, bef, now, pre, Ab, cb, An, cn, rfl, rfl, hg, HM, HSB, HSN, HALL2, HFB, HFN, HO, HBQ⟩ := hrel
       by_cases hd : 0 < d
       ·have hmz : (m : Int) > 1 := by have := HM.out.1; omega
        obtain ⟨wA, rfl⟩ : ∃ wo : World, wo = wr := ⟨_, rfl⟩
        have hd3 : d ≤ 3 := by have := HM.out.2.2.1; omega
        have hwm : IntKind.i64.wrap ((m : Int) - 1) = (d : Int) := by rw [i64_w, HM.out.1]; exact wrapP (d + 1) (by omega) (by omega)
        have mk3 : ∀ W : World, Sem.run Try.prog (Instr.makeSlice 32 (.int .i64 d) (.int .i64 d)) W = Result.ok (Value.slice (some ⟨W.heap.size, 0, none⟩) d d) (W.alloc (.cells (madeCells #[.slice none 0 0] d) 53)) := fun W => run_make_row' (P := Try.prog) 32 53 (.slice none 0 0) 24 Try.underlying32 info_rrow rfl .i64 .i64 d (by omega) (by omega) W
        have HDG := Aside0.mk (And.intro hd (And.intro hg hd3))
        obtain ⟨wN, hwN⟩ : ∃ x, x = wA.alloc (.cells (madeCells #[.slice none 0 0] d) 53) := ⟨_, rfl⟩
        have HWN := Aside0.mk hwN
        have HSX := Aside0.mk (show Slots wN wA.heap.size (List.replicate d nilV) by rw [hwN]; exact Slots.made (blk_new wA _))
        have HB := Aside0.mk (show Below wA.heap.size wA wN by rw [hwN]; exact below_alloc (Below.refl _ _) _)
        have HRF := Aside0.mk (RowsF.nil wN (fun k => wA.heap.size < k))
        clear hd hg hd3 hwN
        go_wp2
        rw [← HWN.out]
        clear mk3
        obtain ⟨gX, hgX⟩ : ∃ g, g = wA.heap.size := ⟨_, rfl⟩
        rw [← hgX] at HSX ⊢
        have HGX := Aside0.mk hgX
        clear hgX
        go_loopg [77] d (fun gg s77 wq => ∃ (i : Nat) (vs : List Value), i ≤ d ∧ d - i ≤ gg ∧ s77 = .int .i64 i ∧ Aside0 (Slots wq gX (vs ++ List.replicate (d - i) nilV)) ∧ Aside0 (RowsF wq (fun k => wA.heap.size < k) vs (tS (rowsQ lam now bef d i))) ∧ Aside0 (Below wA.heap.size wA wq))
        case atStart => exact ⟨0, [], Nat.zero_le _, Nat.le_refl _, rfl, HSX, HRF, HB⟩
        case round =>
         clear HSX HRF HB
         obtain ⟨i, vs, hi, hgi, rfl, HSX, HRF, HB⟩ := hrel
         by_cases hlt : i < d
         ·have hz : (i : Int) < (d : Int) := by omega
          have hzi : (0 : Int) ≤ (i : Int) := by omega
          have hvl : vs.length = i := by rw [HRF.out.1]; simp [tS, rowsQ_length]
          have HVL := Aside0.mk hvl
          have HI := Aside0.mk (And.intro hi (And.intro hgi hlt))
          obtain ⟨wo, rfl⟩ : ∃ wo : World, wo = wr := ⟨_, rfl⟩
          have HSXO := Aside0.mk (show Slots wo gX (vs ++ nilV :: List.replicate (d - i - 1) nilV) by rw [← nils_succ (d - i) (by omega)]; exact HSX.out)
          have HRW := Aside0.mk (show Kd.R k25 25 wo wA.heap.size (fun k => wo.heap.size ≤ k) (.slice none 0 0) ((rowQ lam now bef i 0).map qS) from Kd.R_nil k25 25 wo wA.heap.size (fun k => wo.heap.size ≤ k))
          have HRFO := Aside0.mk HRF.out.bound
          have HGL := Aside0.mk HSX.out.lt
          have HB2 := Aside0.mk (And.intro HB.out (Nat.le_refl wo.heap.size))
          clear hi hgi hvl HSX HRF HB
          go_wp2
          go_loopg [82] d (fun gg s82 wq => ∃ (j : Nat) (u : Value), j ≤ d ∧ d - j ≤ gg ∧ s82 = .int .i64 j ∧ Aside0 (Slots wq gX (vs ++ u :: List.replicate (d - i - 1) nilV)) ∧ Aside0 (Kd.R k25 25 wq wA.heap.size (fun k => wo.heap.size ≤ k) u ((rowQ lam now bef i j).map qS)) ∧ Aside0 (RowsF wq (fun k => wA.heap.size < k ∧ k < wo.heap.size) vs (tS (rowsQ lam now bef d i))) ∧ Aside0 (Below wA.heap.size wA wq ∧ wo.heap.size ≤ wq.heap.size))
          case atStart => exact ⟨0, nilV, Nat.zero_le _, Nat.le_refl _, rfl, HSXO, HRW, HRFO, HB2⟩
          case round =>
           clear HSXO HRW HRFO HB2
           obtain ⟨j, u, hj, hgj, rfl, HSX, HRW, HRF, HB⟩ := hrel
           obtain ⟨hM1, hM2, hM3, hM4⟩ := HM.out
           have hdg := HDG.out
           by_cases hjt : j < d
           ·have hjz : (j : Int) < (d : Int) := by omega
            obtain ⟨i1, hi1⟩ : ∃ x, x = i + 1 := ⟨_, rfl⟩
            obtain ⟨j1, hj1⟩ : ∃ x, x = j + 1 := ⟨_, rfl⟩
            have wi1 : IntKind.i64.wrap ((i : Int) + 1) = (i1 : Int) := pw_s _ _ hi1.symm (by omega)
            have wj1 : IntKind.i64.wrap ((j : Int) + 1) = (j1 : Int) := pw_s _ _ hj1.symm (by omega)
            have z1 : (i : Int) < (m : Int) := by omega
            have z2 : (0 : Int) ≤ (i1 : Int) := by omega
            have z3 : (i1 : Int) < (m : Int) := by omega
            have z4 : (0 : Int) ≤ (j : Int) := by omega
            have z5 : (j : Int) < (m : Int) := by omega
            have z6 : (0 : Int) ≤ (j1 : Int) := by omega
            have z7 : (j1 : Int) < (m : Int) := by omega
            have z8 : (i1 : Int) < (m1 : Int) := by omega
            have z9 : (j1 : Int) < (m1 : Int) := by omega
            obtain ⟨one, bc, two, sm, HCC, hrin, hrp⟩ := cell_calls lam hlam (at2 now i j) (at2 now i j1) (at2 now i1 j) (at2 now i1 j1) (at2 bef i1 j1) (nums_ok (s := l0.length - m) (by omega)) (HSN.out.ok i j (by omega) (by omega)) (HSN.out.ok i j1 (by omega) (by omega)) (HSN.out.ok i1 j (by omega) (by omega)) (HSN.out.ok i1 j1 (by omega) (by omega)) (HSB.out.ok i1 j1 (by omega) (by omega))
            have HC := Aside0.mk HCC
            have HNB := Kd.F_below HFN.out HB.out.1
            have HBB := Kd.F_below HFB.out HB.out.1
            obtain ⟨ad, A1, c1, eA, s1, hC1⟩ := slot_at HNB i (by omega) m (HSN.out.tS_row i (by omega))
            subst eA
            obtain ⟨_, A2, c2, eA, s2, hC2⟩ := slot_at HNB i1 (by omega) m (HSN.out.tS_row i1 (by omega))
            cases eA
            obtain ⟨ab, A3, c3, eA, sb, hC3⟩ := slot_at HBB i1 (by omega) m1 (HSB.out.tS_row i1 (by omega))
            subst eA
            obtain ⟨r1, eA, p1, p2⟩ := place_at hC1 j (by omega) _ (HSN.out.tS_at i j (by omega) (by omega))
            subst eA
            obtain ⟨_, eA, p3, p4⟩ := place_at hC1 j1 (by omega) _ (HSN.out.tS_at i j1 (by omega) (by omega))
            cases eA
            obtain ⟨r2, eA, p5, p6⟩ := place_at hC2 j (by omega) _ (HSN.out.tS_at i1 j (by omega) (by omega))
            subst eA
            obtain ⟨_, eA, p7, p8⟩ := place_at hC2 j1 (by omega) _ (HSN.out.tS_at i1 j1 (by omega) (by omega))
            cases eA
            obtain ⟨r3, eA, p9, p10⟩ := place_at hC3 j1 (by omega) _ (HSB.out.tS_at i1 j1 (by omega) (by omega))
            subst eA
            have HROW := Aside0.mk (show (rowQ lam now bef i (j + 1)).map qS = (rowQ lam now bef i j).map qS ++ [qS (cellQ lam now bef i j)] by rw [rowQ_succ, List.map_append]; rfl)
            obtain ⟨r, hrr⟩ : ∃ r, r = cellQ lam now bef i j := ⟨_, rfl⟩
            rw [show cellOf lam (at2 now i j) (at2 now i j1) (at2 now i1 j) (at2 now i1 j1) (at2 bef i1 j1) = r by rw [hrr, hi1, hj1]; rfl] at HC
            rw [← hrr] at HROW
            obtain ⟨qa, hqa⟩ : ∃ q, q = at2 now i j := ⟨_, rfl⟩
            obtain ⟨qb, hqb⟩ : ∃ q, q = at2 now i j1 := ⟨_, rfl⟩
            obtain ⟨qc, hqc⟩ : ∃ q, q = at2 now i1 j := ⟨_, rfl⟩
            obtain ⟨qe, hqe⟩ : ∃ q, q = at2 now i1 j1 := ⟨_, rfl⟩
            obtain ⟨qf, hqf⟩ : ∃ q, q = at2 bef i1 j1 := ⟨_, rfl⟩
            rw [← hqa, ← hqb, ← hqc, ← hqe, ← hqf] at HC
            rw [← hqa] at p1 p2
            rw [← hqb] at p3 p4
            rw [← hqc] at p5 p6
            rw [← hqe] at p7 p8
            rw [← hqf] at p9 p10
            have HLN := Aside0.mk (show (((rowQ lam now bef i j).map qS).length + 1) * 16 ≤ 140737488355328 by rw [List.length_map, rowQ_length]; omega)
            have HJ := Aside0.mk (And.intro hj (And.intro hgj (And.intro hjt hj1)))
            have HUB := Aside0.mk (show ∀ k, some k = u.ownBlock → wo.heap.size ≤ k ∧ k < wr.heap.size from fun k e => ⟨HRW.out.1 k e.symm, Kd.R_lt HRW.out k e.symm⟩)
            have HGU := Aside0.mk (show some gX ≠ u.ownBlock from fun e => by have := (HUB.out gX e).1; have := HGL.out; omega)
            have HWO := Aside0.mk HB.out.2
            clear HCC hrin hrp HNB HBB hC1 hC2 hC3 hrr hqa hqb hqc hqe hqf hj hgj hM1 hM2 hM3 hM4 hdg hi1 hj1
            go_upto_region 26 with (fail)
            go_cut [17] (fun v17 wc => ∃ g : Nat, v17 = .pointer (some ⟨g, 0, none⟩) ∧ Aside0 (wc.heap[g]? = some (.cells #[.int .i64 one.n, .int .i64 one.d] 25 (0, 0))) ∧ Aside0 (wr.heap.size ≤ g) ∧ Aside0 (Below wr.heap.size wr wc))
            case first =>
             have HBC := Aside0.mk (Below.refl wr.heap.size wr)
             go_region_held3 (fun W1 => W1.cell? (ad.add i) = some (.slice (some r1) m c1) ∧ W1.cell? (r1.add (j * 2)) = some (.int .i64 qa.n) ∧ W1.cell? ⟨(r1.add (j * 2)).block, (r1.add (j * 2)).off + 1, none⟩ = some (.int .i64 qa.d) ∧ W1.cell? (ad.add i1) = some (.slice (some r2) m c2) ∧ W1.cell? (r2.add (j1 * 2)) = some (.int .i64 qe.n) ∧ W1.cell? ⟨(r2.add (j1 * 2)).block, (r2.add (j1 * 2)).off + 1, none⟩ = some (.int .i64 qe.d) ∧ Below wr.heap.size wr W1)
              (first | (refine held7 ?_ s1 p1 p2 s2 p7 p8; repeat (first | (with_reducible exact HBC.out) | (with_reducible refine below_drew ?_) | (with_reducible refine pw_below_drewN ?_ _) | (with_reducible refine below_alloc ?_ _) | (refine below_set ?_ (Nat.le_refl _)) | (refine below_set ?_ HGS.out) | (refine below_set ?_ HBC.out.size)))) (first | (go_at_call 37; refine (HC.out.i1 _).mono ?_; rintro e w5 ⟨rfl, hb⟩; have n_ := fun h => Aside0.mk (Below.trans (B := wr.heap.size) h (hb.mono (Below.size h))); have m_ := n_ (by repeat (first | (with_reducible exact HBC.out) | (with_reducible refine below_drew ?_) | (with_reducible refine pw_below_drewN ?_ _) | (with_reducible refine below_alloc ?_ _) | (refine below_set ?_ (Nat.le_refl _)) | (refine below_set ?_ HGS.out) | (refine below_set ?_ HBC.out.size))); (first | (have hgz : w5.heap[wr.heap.size]? = some (.cells #[.int .i64 0, .int .i64 0] 25 (0, 0)) := blk_below (by first | exact HGZ.out | exact blk_new wr.drew _) hb; have hgc0 := blk_cell hgz 0; have hgc1 := blk_cell hgz 1; have hgf0 := blk_frozen hgz 0; have hgf1 := blk_frozen hgz 1; have HGY := Aside0.mk hgz; clear hgz; (try clear HGZ); have HGZ := HGY; clear HGY) | (have hgz := blk_below HGZ.out hb; have hgc0 := blk_cell hgz 0; have hgc1 := blk_cell hgz 1; have hgf0 := blk_frozen hgz 0; have hgf1 := blk_frozen hgz 1; have HGY := Aside0.mk hgz; clear hgz; (try clear HGZ); have HGZ := HGY; clear HGY) | (have hgz := blk_below (blk_new _ _) hb; have HGS := Aside0.mk HBC.out.size; have hgc0 := blk_cell hgz 0; have hgc1 := blk_cell hgz 1; have hgf0 := blk_frozen hgz 0; have hgf1 := blk_frozen hgz 1; have HGY := Aside0.mk hgz; clear hgz; (try clear HGZ); have HGZ := HGY; clear HGY) | skip); clear n_ HBC hb; have HBC := m_; clear m_))
             all_goals
              go_wp2
              go_meet
              case rel =>
               first
                | exact ⟨_, rfl, ⟨blk_new_at rfl⟩, ⟨HBC.out.size⟩, ⟨by repeat (first | (with_reducible exact HBC.out) | (with_reducible refine below_drew ?_) | (with_reducible refine pw_below_drewN ?_ _) | (with_reducible refine below_alloc ?_ _) | (refine below_set ?_ (Nat.le_refl _)) | (refine below_set ?_ HGS.out) | (refine below_set ?_ HBC.out.size))⟩⟩
                | exact ⟨wr.heap.size, rfl, ⟨blk_put (blk_put HGZ.out 0 _ rfl) 1 _ rfl⟩, ⟨Nat.le_refl _⟩, ⟨by repeat (first | (with_reducible exact HBC.out) | (with_reducible refine below_drew ?_) | (with_reducible refine pw_below_drewN ?_ _) | (with_reducible refine below_alloc ?_ _) | (refine below_set ?_ (Nat.le_refl _)) | (refine below_set ?_ HGS.out) | (refine below_set ?_ HBC.out.size))⟩⟩
            case rest =>
             obtain ⟨g17, rfl, HG17, HL17, HB17⟩ := hcut
             obtain ⟨wB, rfl⟩ : ∃ x : World, x = wc := ⟨_, rfl⟩
             have t1 := pw_cell_below HB17.out s1
             have t2 := pw_cell_below HB17.out p3
             have t3 := pw_cell_below HB17.out p4
             have t4 := pw_cell_below HB17.out s2
             have t5 := pw_cell_below HB17.out p5
             have t6 := pw_cell_below HB17.out p6
             go_upto_region 27 with (fail)
             go_cut [18] (fun v18 wc => ∃ g : Nat, v18 = .pointer (some ⟨g, 0, none⟩) ∧ Aside0 (wc.heap[g]? = some (.cells #[.int .i64 two.n, .int .i64 two.d] 25 (0, 0))) ∧ Aside0 (wB.heap.size ≤ g) ∧ Aside0 (Below wB.heap.size wB wc))
             case first =>
              have HBC := Aside0.mk (Below.refl wB.heap.size wB)
              go_region_held3 (fun W1 => W1.cell? (ad.add i) = some (.slice (some r1) m c1) ∧ W1.cell? (r1.add (j1 * 2)) = some (.int .i64 qb.n) ∧ W1.cell? ⟨(r1.add (j1 * 2)).block, (r1.add (j1 * 2)).off + 1, none⟩ = some (.int .i64 qb.d) ∧ W1.cell? (ad.add i1) = some (.slice (some r2) m c2) ∧ W1.cell? (r2.add (j * 2)) = some (.int .i64 qc.n) ∧ W1.cell? ⟨(r2.add (j * 2)).block, (r2.add (j * 2)).off + 1, none⟩ = some (.int .i64 qc.d) ∧ Below wB.heap.size wB W1)
               (first | (refine held7 ?_ t1 t2 t3 t4 t5 t6; repeat (first | (with_reducible exact HBC.out) | (with_reducible refine below_drew ?_) | (with_reducible refine pw_below_drewN ?_ _) | (with_reducible refine below_alloc ?_ _) | (refine below_set ?_ (Nat.le_refl _)) | (refine below_set ?_ HGS.out) | (refine below_set ?_ HBC.out.size)))) (first | (go_at_call 37; (with_reducible refine (HC.out.i2 _).mono ?_); rintro e w5 ⟨rfl, hb⟩; have n_ := fun h => Aside0.mk (Below.trans (B := wB.heap.size) h (hb.mono (Below.size h))); have m_ := n_ (by repeat (first | (with_reducible exact HBC.out) | (with_reducible refine below_drew ?_) | (with_reducible refine pw_below_drewN ?_ _) | (with_reducible refine below_alloc ?_ _) | (refine below_set ?_ (Nat.le_refl _)) | (refine below_set ?_ HGS.out) | (refine below_set ?_ HBC.out.size))); (first | (have hgz : w5.heap[wB.heap.size]? = some (.cells #[.int .i64 0, .int .i64 0] 25 (0, 0)) := blk_below (by first | exact HGZ.out | exact blk_new wB.drew _) hb; have hgc0 := blk_cell hgz 0; have hgc1 := blk_cell hgz 1; have hgf0 := blk_frozen hgz 0; have hgf1 := blk_frozen hgz 1; have HGY := Aside0.mk hgz; clear hgz; (try clear HGZ); have HGZ := HGY; clear HGY) | (have hgz := blk_below HGZ.out hb; have hgc0 := blk_cell hgz 0; have hgc1 := blk_cell hgz 1; have hgf0 := blk_frozen hgz 0; have hgf1 := blk_frozen hgz 1; have HGY := Aside0.mk hgz; clear hgz; (try clear HGZ); have HGZ := HGY; clear HGY) | (have hgz := blk_below (blk_new _ _) hb; have HGS := Aside0.mk HBC.out.size; have hgc0 := blk_cell hgz 0; have hgc1 := blk_cell hgz 1; have hgf0 := blk_frozen hgz 0; have hgf1 := blk_frozen hgz 1; have HGY := Aside0.mk hgz; clear hgz; (try clear HGZ); have HGZ := HGY; clear HGY) | skip); clear n_ HBC hb; have HBC := m_; clear m_) | (go_at_call 37; (with_reducible refine (HC.out.i3 _).mono ?_); rintro e w5 ⟨rfl, hb⟩; have n_ := fun h => Aside0.mk (Below.trans (B := wB.heap.size) h (hb.mono (Below.size h))); have m_ := n_ (by repeat (first | (with_reducible exact HBC.out) | (with_reducible refine below_drew ?_) | (with_reducible refine pw_below_drewN ?_ _) | (with_reducible refine below_alloc ?_ _) | (refine below_set ?_ (Nat.le_refl _)) | (refine below_set ?_ HGS.out) | (refine below_set ?_ HBC.out.size))); (first | (have hgz : w5.heap[wB.heap.size]? = some (.cells #[.int .i64 0, .int .i64 0] 25 (0, 0)) := blk_below (by first | exact HGZ.out | exact blk_new wB.drew _) hb; have hgc0 := blk_cell hgz 0; have hgc1 := blk_cell hgz 1; have hgf0 := blk_frozen hgz 0; have hgf1 := blk_frozen hgz 1; have HGY := Aside0.mk hgz; clear hgz; (try clear HGZ); have HGZ := HGY; clear HGY) | (have hgz := blk_below HGZ.out hb; have hgc0 := blk_cell hgz 0; have hgc1 := blk_cell hgz 1; have hgf0 := blk_frozen hgz 0; have hgf1 := blk_frozen hgz 1; have HGY := Aside0.mk hgz; clear hgz; (try clear HGZ); have HGZ := HGY; clear HGY) | (have hgz := blk_below (blk_new _ _) hb; have HGS := Aside0.mk HBC.out.size; have hgc0 := blk_cell hgz 0; have hgc1 := blk_cell hgz 1; have hgf0 := blk_frozen hgz 0; have hgf1 := blk_frozen hgz 1; have HGY := Aside0.mk hgz; clear hgz; (try clear HGZ); have HGZ := HGY; clear HGY) | skip); clear n_ HBC hb; have HBC := m_; clear m_))
              all_goals
               go_wp2
               go_meet
               case rel =>
                first
                 | exact ⟨_, rfl, ⟨blk_new_at rfl⟩, ⟨HBC.out.size⟩, ⟨by repeat (first | (with_reducible exact HBC.out) | (with_reducible refine below_drew ?_) | (with_reducible refine pw_below_drewN ?_ _) | (with_reducible refine below_alloc ?_ _) | (refine below_set ?_ (Nat.le_refl _)) | (refine below_set ?_ HGS.out) | (refine below_set ?_ HBC.out.size))⟩⟩
                 | exact ⟨wB.heap.size, rfl, ⟨blk_put (blk_put HGZ.out 0 _ rfl) 1 _ rfl⟩, ⟨Nat.le_refl _⟩, ⟨by repeat (first | (with_reducible exact HBC.out) | (with_reducible refine below_drew ?_) | (with_reducible refine pw_below_drewN ?_ _) | (with_reducible refine below_alloc ?_ _) | (refine below_set ?_ (Nat.le_refl _)) | (refine below_set ?_ HGS.out) | (refine below_set ?_ HBC.out.size))⟩⟩
                 | exact ⟨_, rfl, ⟨blk_put (blk_put HGZ.out 0 _ rfl) 1 _ rfl⟩, ⟨HGS.out⟩, ⟨below_set (below_set (by repeat (first | (with_reducible exact HBC.out) | (with_reducible refine below_drew ?_) | (with_reducible refine pw_below_drewN ?_ _) | (with_reducible refine below_alloc ?_ _) | (refine below_set ?_ (Nat.le_refl _)) | (refine below_set ?_ HGS.out) | (refine below_set ?_ HBC.out.size))) HGS.out) HGS.out⟩⟩
             case rest =>
              obtain ⟨g18, rfl, HG18, HL18, HB18⟩ := hcut
              obtain ⟨wE, rfl⟩ : ∃ x : World, x = wc := ⟨_, rfl⟩
              have HWE := Aside0.mk (below_step HB17.out HB18.out)
              have HRE := Aside0.mk (Kd.R_below HRW.out HWE.out)
              have HBE := Aside0.mk (below_step HB.out.1 HWE.out)
              have HSE := Aside0.mk (HSX.out.below HWE.out)
              have HRFE := Aside0.mk (HRF.out.below HWE.out)
              have HG17' := Aside0.mk (blk_below HG17.out HB18.out)
              have e1 := HSE.out.cell i u (get_mid _ _ _ _ HVL.out)
              have e2 := blk_cell HG17'.out 0
              have e3 := blk_cell HG17'.out 1
              have e4 := blk_cell HG18.out 0
              have e5 := blk_cell HG18.out 1
              have e6 := pw_cell_below HWE.out sb
              have e7 := pw_cell_below HWE.out p9
              have e8 := pw_cell_below HWE.out p10
              clear s1 s2 sb p1 p2 p3 p4 p5 p6 p7 p8 p9 p10 t1 t2 t3 t4 t5 t6 HSX HRW HRF HG17 HG17' HG18 HL17 HL18 HB17 HB18
              go_upto_region 28 with (fail)
              refine start_ (n := 23) (S := fun w' => w'.cell? ⟨gX, i, none⟩ = some u ∧ w'.cell? ⟨g17, 0, none⟩ = some (.int .i64 one.n) ∧ w'.cell? ⟨g17, 1, none⟩ = some (.int .i64 one.d) ∧ w'.cell? ⟨g18, 0, none⟩ = some (.int .i64 two.n) ∧ w'.cell? ⟨g18, 1, none⟩ = some (.int .i64 two.d) ∧ w'.cell? (ab.add i1) = some (.slice (some r3) m1 c3) ∧ w'.cell? (r3.add (j1 * 2)) = some (.int .i64 qf.n) ∧ w'.cell? ⟨(r3.add (j1 * 2)).block, (r3.add (j1 * 2)).off + 1, none⟩ = some (.int .i64 qf.d) ∧ Below wE.heap.size wE w') (ds := [20, 22]) #[false, false, false, false, false, false, false, false, false, false, false, false, false, false, false, false, false, false, false, false, false, false, false] (by kernel_rfl) rfl rfl ⟨e1, e2, e3, e4, e5, e6, e7, e8, below_drew1 (Below.refl _ _)⟩ (fun hHeld => ?_)
              generalize hgen_ : World.drew wE = wF at hHeld ⊢
              refine pure_ (i := 0) (N := some 122) (v := ?_) (a' := ?_) #[true, false, false, false, false, false, false, false, false, false, false, false, false, false, false, false, false, false, false, false, false, false, false] rfl rfl (by kernel_rfl) (fun _ _ _ h => h) (Or.inl ⟨by rfl, ?_⟩) ?_ ?_
              rotate_left
              ·intro w'; go_simp; with_reducible rfl
              rotate_left
              ·simp only [Act.put, List.setIfInBounds_toArray, List.set_cons_zero, List.set_cons_succ, i64_w, i32_w]; rfl
              refine pure_ (i := 1) (N := some 123) (v := ?_) (a' := ?_) #[true, true, false, false, false, false, false, false, false, false, false, false, false, false, false, false, false, false, false, false, false, false, false] rfl rfl (by kernel_rfl) (fun _ _ _ h => h) (Or.inl ⟨by rfl, ?_⟩) ?_ ?_
              rotate_left
              ·intro w'; go_simp; with_reducible rfl
              rotate_left
              ·simp only [Act.put, List.setIfInBounds_toArray, List.set_cons_zero, List.set_cons_succ, i64_w, i32_w]; rfl
              refine pure_ (i := 2) (N := some 124) (v := ?_) (a' := ?_) #[true, true, true, false, false, false, false, false, false, false, false, false, false, false, false, false, false, false, false, false, false, false, false] rfl rfl (by kernel_rfl) (fun _ _ _ h => h) (Or.inl ⟨by rfl, ?_⟩) ?_ ?_
              rotate_left
              ·intro w'; go_simp; with_reducible rfl
              rotate_left
              ·simp only [Act.put, List.setIfInBounds_toArray, List.set_cons_zero, List.set_cons_succ, i64_w, i32_w]; rfl
              refine pure_ (i := 3) (N := some 125) (v := ?_) (a' := ?_) #[true, true, true, true, false, false, false, false, false, false, false, false, false, false, false, false, false, false, false, false, false, false, false] rfl rfl (by kernel_rfl) (fun _ _ _ h => h) (Or.inl ⟨by rfl, ?_⟩) ?_ ?_
              rotate_left
              ·intro w'; go_simp; with_reducible rfl
              rotate_left
              ·simp only [Act.put, List.setIfInBounds_toArray, List.set_cons_zero, List.set_cons_succ, i64_w, i32_w]; rfl
              refine pure_ (i := 4) (N := some 126) (v := ?_) (a' := ?_) #[true, true, true, true, true, false, false, false, false, false, false, false, false, false, false, false, false, false, false, false, false, false, false] rfl rfl (by kernel_rfl) (fun _ _ _ h => h) (Or.inl ⟨by rfl, ?_⟩) ?_ ?_
              rotate_left
              ·intro w'; go_simp; with_reducible rfl
              rotate_left
              ·simp only [Act.put, List.setIfInBounds_toArray, List.set_cons_zero, List.set_cons_succ, i64_w, i32_w]; rfl
              refine take_ (i := 5) (N := some 127) (v := ?_) (a' := ?_) #[true, true, true, true, true, true, false, false, false, false, false, false, false, false, false, false, false, false, false, false, false, false, false] rfl rfl (by kernel_rfl) (fun _ _ _ h => h) (Or.inl ⟨by rfl, ?_⟩) hHeld ?_ ?_
              rotate_left
              ·rintro w' ⟨s0_, s1_, s2_, s3_, s4_, s5_, s6_, s7_, s8_⟩; go_simp; with_reducible rfl
              rotate_left
              ·simp only [Act.put, List.setIfInBounds_toArray, List.set_cons_zero, List.set_cons_succ, i64_w, i32_w]; rfl
              refine take_ (i := 6) (N := some 128) (v := ?_) (a' := ?_) #[true, true, true, true, true, true, true, false, false, false, false, false, false, false, false, false, false, false, false, false, false, false, false] rfl rfl (by kernel_rfl) (fun _ _ _ h => h) (Or.inl ⟨by rfl, ?_⟩) hHeld ?_ ?_
              rotate_left
              ·rintro w' ⟨s0_, s1_, s2_, s3_, s4_, s5_, s6_, s7_, s8_⟩; go_simp; with_reducible rfl
              rotate_left
              ·simp only [Act.put, List.setIfInBounds_toArray, List.set_cons_zero, List.set_cons_succ, i64_w, i32_w]; rfl
              refine take_ (i := 7) (N := some 129) (v := ?_) (a' := ?_) #[true, true, true, true, true, true, true, true, false, false, false, false, false, false, false, false, false, false, false, false, false, false, false] rfl rfl (by kernel_rfl) (fun _ _ _ h => h) (Or.inl ⟨by rfl, ?_⟩) hHeld ?_ ?_
              rotate_left
              ·rintro w' ⟨s0_, s1_, s2_, s3_, s4_, s5_, s6_, s7_, s8_⟩; go_simp; with_reducible rfl
              rotate_left
              ·simp only [Act.put, List.setIfInBounds_toArray, List.set_cons_zero, List.set_cons_succ, i64_w, i32_w]; rfl
              refine pure_ (i := 9) (N := some 131) (v := ?_) (a' := ?_) #[true, true, true, true, true, true, true, true, false, true, false, false, false, false, false, false, false, false, false, false, false, false, false] rfl rfl (by kernel_rfl) (fun _ _ _ h => h) (Or.inl ⟨by rfl, ?_⟩) ?_ ?_
              rotate_left
              ·intro w'; go_simp; with_reducible rfl
              rotate_left
              ·simp only [Act.put, List.setIfInBounds_toArray, List.set_cons_zero, List.set_cons_succ, i64_w, i32_w]; rfl
              refine pure_ (i := 10) (N := some 132) (v := ?_) (a' := ?_) #[true, true, true, true, true, true, true, true, false, true, true, false, false, false, false, false, false, false, false, false, false, false, false] rfl rfl (by kernel_rfl) (fun _ _ _ h => h) (Or.inl ⟨by rfl, ?_⟩) ?_ ?_
              rotate_left
              ·intro w'; go_simp; with_reducible rfl
              rotate_left
              ·simp only [Act.put, List.setIfInBounds_toArray, List.set_cons_zero, List.set_cons_succ, i64_w, i32_w]; rfl
              refine pure_ (i := 11) (N := some 133) (v := ?_) (a' := ?_) #[true, true, true, true, true, true, true, true, false, true, true, true, false, false, false, false, false, false, false, false, false, false, false] rfl rfl (by kernel_rfl) (fun _ _ _ h => h) (Or.inl ⟨by rfl, ?_⟩) ?_ ?_
              rotate_left
              ·intro w'; go_simp; with_reducible rfl
              rotate_left
              ·simp only [Act.put, List.setIfInBounds_toArray, List.set_cons_zero, List.set_cons_succ, i64_w, i32_w]; rfl
              refine pure_ (i := 12) (N := some 134) (v := ?_) (a' := ?_) #[true, true, true, true, true, true, true, true, false, true, true, true, true, false, false, false, false, false, false, false, false, false, false] rfl rfl (by kernel_rfl) (fun _ _ _ h => h) (Or.inl ⟨by rfl, ?_⟩) ?_ ?_
              rotate_left
              ·intro w'; go_simp; with_reducible rfl
              rotate_left
              ·simp only [Act.put, List.setIfInBounds_toArray, List.set_cons_zero, List.set_cons_succ, i64_w, i32_w]; rfl
              refine take_ (i := 13) (N := some 135) (v := ?_) (a' := ?_) #[true, true, true, true, true, true, true, true, false, true, true, true, true, true, false, false, false, false, false, false, false, false, false] rfl rfl (by kernel_rfl) (fun _ _ _ h => h) (Or.inl ⟨by rfl, ?_⟩) hHeld ?_ ?_
              rotate_left
              ·rintro w' ⟨s0_, s1_, s2_, s3_, s4_, s5_, s6_, s7_, s8_⟩; go_simp; with_reducible rfl
              rotate_left
              ·simp only [Act.put, List.setIfInBounds_toArray, List.set_cons_zero, List.set_cons_succ, i64_w, i32_w]; rfl
              refine pure_ (i := 14) (N := some 136) (v := ?_) (a' := ?_) #[true, true, true, true, true, true, true, true, false, true, true, true, true, true, true, false, false, false, false, false, false, false, false] rfl rfl (by kernel_rfl) (fun _ _ _ h => h) (Or.inl ⟨by rfl, ?_⟩) ?_ ?_
              rotate_left
              ·intro w'; go_simp; with_reducible rfl
              rotate_left
              ·simp only [Act.put, List.setIfInBounds_toArray, List.set_cons_zero, List.set_cons_succ, i64_w, i32_w]; rfl
              refine pure_ (i := 15) (N := some 137) (v := ?_) (a' := ?_) #[true, true, true, true, true, true, true, true, false, true, true, true, true, true, true, true, false, false, false, false, false, false, false] rfl rfl (by kernel_rfl) (fun _ _ _ h => h) (Or.inl ⟨by rfl, ?_⟩) ?_ ?_
              rotate_left
              ·intro w'; go_simp; with_reducible rfl
              rotate_left
              ·simp only [Act.put, List.setIfInBounds_toArray, List.set_cons_zero, List.set_cons_succ, i64_w, i32_w]; rfl
              refine pure_ (i := 16) (N := some 138) (v := ?_) (a' := ?_) #[true, true, true, true, true, true, true, true, false, true, true, true, true, true, true, true, true, false, false, false, false, false, false] rfl rfl (by kernel_rfl) (fun _ _ _ h => h) (Or.inl ⟨by rfl, ?_⟩) ?_ ?_
              rotate_left
              ·intro w'; go_simp; with_reducible rfl
              rotate_left
              ·simp only [Act.put, List.setIfInBounds_toArray, List.set_cons_zero, List.set_cons_succ, i64_w, i32_w]; rfl
              refine take_ (i := 17) (N := some 139) (v := ?_) (a' := ?_) #[true, true, true, true, true, true, true, true, false, true, true, true, true, true, true, true, true, true, false, false, false, false, false] rfl rfl (by kernel_rfl) (fun _ _ _ h => h) (Or.inl ⟨by rfl, ?_⟩) hHeld ?_ ?_
              rotate_left
              ·rintro w' ⟨s0_, s1_, s2_, s3_, s4_, s5_, s6_, s7_, s8_⟩; go_simp; with_reducible rfl
              rotate_left
              ·simp only [Act.put, List.setIfInBounds_toArray, List.set_cons_zero, List.set_cons_succ, i64_w, i32_w]; rfl
              refine one_ (i := 8) (N := some 130) #[true, true, true, true, true, true, true, true, true, true, true, true, true, true, true, true, true, true, false, false, false, false, false] rfl rfl (by kernel_rfl) (by decide) (fun K hK => ?_)
              refine goes_ Try.func35 (by kernel_rfl) rfl #[.agg #[.int .i64 one.n, .int .i64 one.d], .agg #[.int .i64 two.n, .int .i64 two.d]] (by rfl) rfl rfl (by (try simp only [List.map_toArray, List.map_cons, List.map_nil]); first | done | rfl) ?_
              with_reducible refine (HC.out.i4 _).mono ?_
              rintro e w2 ⟨rfl, hb⟩
              refine ⟨_, rfl, ?_⟩
              refine hK.out _ _ (held9 (below_step hHeld.2.2.2.2.2.2.2.2 hb) e1 e2 e3 e4 e5 e6 e7 e8) (fun hHeld => ?_)
              clear hK K
              refine norm_ (a' := ?_) ?_ ?_
              rotate_left
              ·show Act.put _ (some 130) _ = _; simp only [Act.put, List.setIfInBounds_toArray, List.set_cons_zero, List.set_cons_succ, i64_w, i32_w]; rfl
              refine one_ (i := 18) (N := some 140) #[true, true, true, true, true, true, true, true, true, true, true, true, true, true, true, true, true, true, true, false, false, false, false] rfl rfl (by kernel_rfl) (by decide) (fun K hK => ?_)
              refine goes_ Try.func61 (by kernel_rfl) rfl #[.agg #[.int .i64 sm.n, .int .i64 sm.d], .agg #[.int .i64 qf.n, .int .i64 qf.d]] (by rfl) rfl rfl (by (try simp only [List.map_toArray, List.map_cons, List.map_nil]); first | done | rfl) ?_
              with_reducible refine (HC.out.i5 _).mono ?_
              rintro e w9 ⟨rfl, hb⟩; have HB9 := Aside0.mk (below_step hHeld.2.2.2.2.2.2.2.2 hb)
              refine ⟨_, rfl, ?_⟩
              refine hK.out _ _ (held9 (below_step hHeld.2.2.2.2.2.2.2.2 hb) e1 e2 e3 e4 e5 e6 e7 e8) (fun hHeld => ?_)
              clear hK K
              refine norm_ (a' := ?_) ?_ ?_
              rotate_left
              ·show Act.put _ (some 140) _ = _; simp only [Act.put, List.setIfInBounds_toArray, List.set_cons_zero, List.set_cons_succ, i64_w, i32_w]; rfl
              refine one_ (i := 19) (N := some 141) #[true, true, true, true, true, true, true, true, true, true, true, true, true, true, true, true, true, true, true, true, false, false, false] rfl rfl (by kernel_rfl) (by decide) (fun K hK => ?_)
              go_simp
              refine hK.out _ _ (held9 (below_step HB9.out (below_alloc (Below.refl _ _) _)) e1 e2 e3 e4 e5 e6 e7 e8) (fun hHeld => ?_)
              clear hK K
              refine last_ (i := 20) (N := some 142) #[true, true, true, true, true, true, true, true, true, true, true, true, true, true, true, true, true, true, true, true, true, false, false] rfl rfl (by kernel_rfl) (by decide) (fun K hK => ?_)
              refine Kd.R_append_step k25 (w0 := wA) wA.heap.size rfl (.tmp 127) (.tmp 141) 53 25 (.agg #[.int .i64 0, .int .i64 0]) 16 rfl Try.underlying53 info_ratio rfl (by decide) (by omega) u ((rowQ lam now bef i j).map qS) (qS r) [.int .i64 r.n, .int .i64 r.d] (fun k => wo.heap.size ≤ k) (fun _ => False) rfl rfl ?aP ?aF ?aO ?aH ?aB ?aS ?aL ?_
              (case aP => exact k25_mkM _ _ _ _)
              (case aF => exact fun _ hk => hk.elim)
              (case aO => exact fun k hk => Nat.le_trans (Nat.le_trans HWO.out (below_step (below_step HWE.out HB9.out) (Below.refl _ _)).size) hk)
              (case aH => exact Kd.R_below HRE.out HB9.out)
              (case aB => exact below_step HBE.out HB9.out)
              (case aS => exact (below_step HBE.out HB9.out).size)
              (case aL => exact HLN.out)
              intro v8 w8 ho hb8 hg8 hat8
              rw [← HROW.out] at ho
              obtain ⟨A8, c8, e8_⟩ := Kd.R_slice ho
              obtain ⟨L8, eL⟩ : ∃ L, L = ((rowQ lam now bef i (j + 1)).map qS).length := ⟨_, rfl⟩
              rw [← eL] at e8_
              subst e8_
              have HLE := Aside0.mk eL
              clear eL
              have HR8 := Aside0.mk ho
              have HB8 := Aside0.mk hb8
              have HG8 := Aside0.mk hg8
              clear ho hb8 hg8 hat8
              refine hK.out _ _ ?_
              clear hK K
              refine norm_ (a' := ?_) ?_ ?_
              rotate_left
              ·show Act.put _ (some 142) _ = _; simp only [Act.put, List.setIfInBounds_toArray, List.set_cons_zero, List.set_cons_succ, i64_w, i32_w]; rfl
              refine pure_ (i := 21) (N := some 143) (v := ?_) (a' := ?_) #[true, true, true, true, true, true, true, true, true, true, true, true, true, true, true, true, true, true, true, true, true, true, false] rfl rfl (by kernel_rfl) (fun _ _ _ h => h) (Or.inl ⟨by rfl, ?_⟩) ?_ ?_
              rotate_left
              ·intro w'; go_simp; with_reducible rfl
              rotate_left
              ·simp only [Act.put, List.setIfInBounds_toArray, List.set_cons_zero, List.set_cons_succ, i64_w, i32_w]; rfl
              refine last_ (i := 22) (N := none) #[true, true, true, true, true, true, true, true, true, true, true, true, true, true, true, true, true, true, true, true, true, true, true] rfl rfl (by kernel_rfl) (by decide) (fun K hK => ?_)
              have hs8 : Slots w8 gX (vs ++ u :: List.replicate (d - i - 1) nilV) := (HSE.out.below HB9.out).of_eq (HG8.out.block gX (HSE.out.below HB9.out).lt HGU.out)
              have hsc := hs8.cell i u (get_mid _ _ _ _ HVL.out)
              have hsf := hs8.frozen i
              have HS8 := Aside0.mk hs8
              clear hs8
              refine skip_ (w1 := ?_) (by rfl) rfl ?_ ?_
              rotate_left
              ·go_simp; rfl
              refine hK.out _ _ ?_
              clear hK K
              refine done_ (by kernel_rfl) ?_
              go_wp2
              go_roundg (d - (j + 1))
              case measure => have := HJ.out; omega
              case rel =>
               have hgx := HGX.out
               have hgl := HGL.out
               have hwo := HWO.out
               refine ⟨j + 1, .slice A8 L8 c8, by have := HJ.out; omega, Nat.le_refl _, by rw [HJ.out.2.2.2], ?_, ?_, ?_, ⟨below_set HB8.out (by omega), Nat.le_trans (Nat.le_trans hwo (Nat.le_trans HWE.out.size HB9.out.size)) (by have := HG8.out.size; simpa using this)⟩⟩
               ·refine ⟨?_⟩
                have h := HS8.out.put i (.slice A8 L8 c8)
                have hv := HVL.out
                subst hv
                rw [set_mid] at h
                exact h
               ·exact ⟨Kd.R_far (p := ⟨gX, i, none⟩) HR8.out (fun k hk => by have hk' : wo.heap.size ≤ k := hk; dsimp only; omega) _⟩
               ·refine ⟨RowsF.step ((HRFE.out.below HB9.out).step (fun k hk hlt => HG8.out.block k hlt (fun e => by have h2 := (HUB.out k e).1; have h3 := hk.2; omega))) (fun k hk _ => Below.heap_setCell _ _ _ _ (by have h2 := hk.1; dsimp only; omega))⟩
           ·have hjz : ¬ (j : Int) < (d : Int) := by omega
            have HR2 := Aside0.mk (show Kd.R k25 25 wr wA.heap.size (fun k => wo.heap.size ≤ k) u ((rowQ lam now bef i d).map qS) by
             have h := HRW.out
             rw [show j = d by omega] at h
             exact h)
            obtain ⟨A8, c8, e8⟩ := Kd.R_slice HR2.out
            obtain ⟨L8, eL⟩ : ∃ L, L = ((rowQ lam now bef i d).map qS).length := ⟨_, rfl⟩
            rw [← eL] at e8
            subst e8
            have HLE := Aside0.mk eL
            have HHB := Aside0.mk (And.intro hdg.2.2 (And.intro h4 (And.intro hM1 hM3)))
            clear hj hgj hjt eL HRW hM1 hM2 hM3 hM4 hdg
            go_wp2
            go_roundg (d - (i + 1))
            case measure => have := HI.out; omega
            case rel =>
             have hgx := HGX.out
             have hgl := HGL.out
             have hhb := HHB.out
             refine ⟨i + 1, vs ++ [.slice A8 L8 c8], by have := HI.out; omega, Nat.le_refl _, by first | go_num | (congr 1; first | exact wrapS _ (by omega) | exact (wrapS _ (by omega)).symm | (unfold wrap64; omega)), ?_, ?_, ⟨HB.out.1⟩⟩
             ·refine ⟨?_⟩
              have h := HSX.out
              rw [List.append_assoc, show d - (i + 1) = d - i - 1 by omega]
              exact h
             ·refine ⟨?_⟩
              rw [rowsQ_succ, show tS (rowsQ lam now bef d i ++ [rowQ lam now bef i d]) = tS (rowsQ lam now bef d i) ++ [(rowQ lam now bef i d).map qS] by simp [tS]]
              have hR := HR2.out
              exact (HRF.out.mono (fun k hk => hk.1)).snoc HLE.out (Kd.R_reads' hR).2.1 (Kd.F_mono (Kd.R_F hR) (fun k hk => by have hk' : wo.heap.size ≤ k := hk; omega))
         ·have hz : ¬ (i : Int) < (d : Int) := by omega
          obtain ⟨hM1, hM2, hM3, hM4⟩ := HM.out
          have hdg := HDG.out
          obtain ⟨e, hde⟩ : ∃ e, d = e + 1 := ⟨d - 1, by omega⟩
          have hsq := next_Sq (lam := lam) (m := d) (s := l0.length - m) hlam (by omega) (by rw [← hM1]; exact HSN.out) (by rw [show d + 2 = m1 by omega]; exact HSB.out)
          have hnx : rowsQ lam now bef d i = nextQ lam d now bef := by rw [show i = d by omega]; rfl
          obtain ⟨nx, hnxe⟩ : ∃ x, x = nextQ lam d now bef := ⟨_, rfl⟩
          rw [← hnxe] at hnx hsq
          have HTX := Aside0.mk (show Kd.F (Kd.slice 25 k25) wr (fun k => wA.heap.size ≤ k ∧ k < wr.heap.size) (some ⟨gX, 0, none⟩) d (tS nx) by
           have hr := HRF.out
           have hs := HSX.out
           have hgl := hs.lt
           rw [hnx] at hr
           rw [show i = d by omega, Nat.sub_self, List.replicate_zero, List.append_nil] at hs
           have h := hr.bound.table hs (by rw [hsq.tS_len]; omega)
           rw [hsq.tS_len] at h
           refine Kd.F_mono h (fun k hk => ?_)
           have hgx := HGX.out
           rcases hk with hk | hk
           ·exact ⟨by omega, hk.2⟩
           ·subst hk; exact ⟨by omega, hgl⟩)
          have HOB := Aside0.mk (show ∀ k, some k = u13.ownBlock → k < wA.heap.size from fun k e => Kd.N_lt HO.out k e.symm)
          have HOW := Aside0.mk (Kd.N_below HO.out HB.out)
          have HFK := Aside0.mk (show Kd.FK (Kd.slice 53 (Kd.slice 25 k25)) wr (fun k => wA.heap.size ≤ k ∧ k < wr.heap.size) (tS nx) [.slice (some ⟨gX, 0, none⟩) d d] by
           have h := Kd.FK_slice_mk (e := 53) (c := d) (l := tS nx) (by rw [hsq.tS_len]; exact Nat.le_refl _) (by rw [hsq.tS_len]; exact HTX.out)
           rw [hsq.tS_len] at h
           exact h)
          have HWW := Aside0.mk (And.intro HBQ.out.size HB.out.size)
          have HNW := Aside0.mk (Kd.F_below HFN.out HB.out)
          have HBW3 := Aside0.mk (below_step HBQ.out HB.out)
          have HLEN := Aside0.mk (show (((pre ++ [now]).map tS).length + 1) * 24 ≤ 140737488355328 by
           have h := congrArg List.length HALL2.out
           have ha : ∀ (d : Nat) (b n : List (List Q)), (stepsQ lam d b n).length = d + 1 := by
            intro d; induction d with
            | zero => intro b n; rfl
            | succ d ih => intro b n; rw [stepsQ, List.length_cons, ih]
           have h2 := congrArg List.length HALL.out
           rw [ha] at h2
           rw [List.length_append, ha] at h
           rw [List.length_map, List.length_append, List.length_singleton]
           omega)
          have HSX2 := Aside0.mk hsq
          have HE := Aside0.mk (And.intro hde (And.intro hnxe hdg))
          clear hi hgi hlt hM1 hM2 hM3 hM4 hdg hde hsq hnx hnxe HSX HRF
          go_wp2_with ((with_reducible refine gate_builtin (b := .append) (xs := #[.tmp 148, .tmp 150]) rfl ?_); at_builtin; refine Kd.N_append (Kd.slice 53 (Kd.slice 25 k25)) (w0 := w) w.heap.size rfl (.tmp 148) (.tmp 150) 54 32 (.slice none 0 0) 24 rfl Try.underlying54 info_rtab rfl (by decide) (by omega) u13 ((pre ++ [now]).map tS) (tS nx) [.slice (some ⟨gX, 0, none⟩) d d] (fun k => w.heap.size ≤ k) (fun k => wA.heap.size ≤ k ∧ k < wr.heap.size) rfl rfl ?aP ?aF ?aO ?aH ?aB ?aS ?aL ?_; (case aP => exact HFK.out); (case aF => exact fun k hk => ⟨Nat.le_trans HWW.out.1 hk.1, fun e => by have := HOB.out k e; omega⟩); (case aO => exact fun k hk => Nat.le_trans (Nat.le_trans HWW.out.1 HWW.out.2) hk); (case aH => exact HOW.out); (case aB => exact HBW3.out); (case aS => exact HBW3.out.size); (case aL => exact HLEN.out); intro v8 w8 ho hb hg hat; have HR8 := Aside0.mk ho; have HB8 := Aside0.mk hb; have HG8 := Aside0.mk hg; have HA8 := Aside0.mk hat; clear ho hb hg hat)
          go_roundg e
          case measure => have := HE.out; omega
          case rel =>
           obtain ⟨hde, hnxe, hdg⟩ := HE.out
           obtain ⟨hM1, hM2, hM3, hM4⟩ := HM.out
           refine ⟨e, d, m, now, nx, pre ++ [now], An, cn, _, d, rfl, rfl, Nat.le_refl _, ⟨hde, hM1, by omega, Nat.le_refl _⟩, ?_, ?_, ?_, ?_, ?_, ?_, HB8⟩
           ·rw [show l0.length - d = l0.length - m + 1 by omega]; exact HSN
           ·rw [show l0.length - d + 1 = l0.length - m + 2 by omega]; exact HSX2
           ·refine ⟨?_⟩
            have h := HALL2.out
            rw [hde, stepsQ, ← hde, ← hnxe] at h
            rw [List.append_assoc]
            exact h
           ·refine ⟨Kd.F_mono (Kd.F_grown (Kd.F_bound HNW.out) HG8.out (fun k hk => hk.1.2)) (fun k hk => ⟨hk.1.1, fun e => ?_⟩)⟩
            rcases HA8.out with h | ⟨b, h, hb⟩
            ·rw [h] at e; exact hk.1.2 e
            ·rw [h] at e; injection e with e; have := hk.2; omega
           ·refine ⟨Kd.F_mono (Kd.F_grown HTX.out HG8.out (fun k hk e => by have := HOB.out k e; have := hk.1; omega)) (fun k hk => ⟨Nat.le_trans HWW.out.1 hk.1, fun e => ?_⟩)⟩
            rcases HA8.out with h | ⟨b, h, hb⟩
            ·rw [h] at e; have := HOB.out k e; have := hk.1; omega
            ·rw [h] at e; injection e with e; have := hk.2; omega
           ·refine ⟨?_⟩
            rw [List.map_append (l₂ := [nx])]
            exact HR8.out
       ·have hmz : ¬ (m : Int) > 1 := by have := HM.out.1; omega
        have hd0 : d = 0 := by omega
        subst hd0
        have HFIN := Aside0.mk (show pre ++ [now] = ALL from HALL2.out)
        go_wp2
        go_ret
        refine ⟨_, rfl, ?_, HBQ.out⟩
        rw [← HALL.out, ← HFIN.out]
        exact HO.out
end Go.Proofs.Ytkiloimggmpggaa.L
