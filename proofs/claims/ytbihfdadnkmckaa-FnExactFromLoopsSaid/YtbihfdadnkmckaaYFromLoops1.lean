/- Texts of one chain, in build order. -/
import Derived.Test.YtbihfdadnkmckaaYFromLoops0
import Derived.Laws.EntriesVeiled
namespace Go.Proofs.Ytbihfdadnkmckaa
open Go.RowKit Go.Proofs.YtbihfdadnkmckaaW.PrintWords Go.Proofs.YtbihfdadnkmckaaW.PrintLast Go.Proofs.YtbihfdadnkmckaaW.PrintMore
set_option linter.unusedVariables false
set_option linter.unusedSimpArgs false

def fromM (n : Int) (a : List (List Int)) : List (List Int) := tableL (numF a) n.toNat n.toNat
/-- The table out of lines, and whether there is one. -/
def fromR (n : Int) (a d : List (List Int)) : List (List Int) × Bool := if (inB n 1 6 && (tabB a n (n + 1) && tabB d (n + 1) n)) = true then (if isSign (fromM n a) = true then (if acM (fromM n a) = a ∧ dnM (fromM n a) = d then (fromM n a, true) else ([], false)) else ([], false)) else ([], false)
def impl_FromLoops.f (a0_0 : Int) (l0_1 : List (List Int)) (l0_2 : List (List Int)) : Option (List (List Int) × Bool) := some (fromR a0_0 l0_1 l0_2)
theorem tabB_at {l : List (List Int)} {r c : Int} (h : tabB l r c = true) : (l.length : Int) = r ∧ ∀ i : Nat, i < l.length → (((l.getD i []).length : Nat) : Int) = c ∧ ∀ q : Nat, q < (l.getD i []).length → 0 ≤ rd (l.getD i []) q ∧ rd (l.getD i []) q ≤ 1 := by
 unfold tabB at h
 rw [Bool.and_eq_true, beq_iff_eq] at h
 refine ⟨h.1, fun i hi => ?_⟩
 have hm : l.getD i [] ∈ l := by rw [List.getD_eq_getElem?_getD, List.getElem?_eq_getElem hi]; exact List.getElem_mem hi
 have hr := List.all_eq_true.1 h.2 _ hm
 unfold rowOk at hr
 rw [Bool.and_eq_true, beq_iff_eq] at hr
 refine ⟨hr.1, fun q hq => ?_⟩
 have hx : rd (l.getD i []) q ∈ l.getD i [] := by
  generalize l.getD i [] = L at hq
  have e : rd L (q : Int) = L[q] := by simp [rd, List.getD_eq_getElem?_getD, hq]
  rw [e]; exact List.getElem_mem hq
 exact (inB_iff _ _ _).1 (List.all_eq_true.1 hr.2 _ hx)
set_option maxHeartbeats 2000000 in
theorem impl_FromLoops.calls (a0_0 : Int) (A0_1 : Option Addr) (c0_1 : Nat) (l0_1 : List (List Int)) (A0_2 : Option Addr) (c0_2 : Nat) (l0_2 : List (List Int)) (r1 : List (List Int)) (r2 : Bool) (w : World) (hr0_1 : Kd.C (Kd.slice 3 (Kd.int .i64)) w A0_1 l0_1.length l0_1) (hc0_1 : l0_1.length ≤ c0_1) (hr0_2 : Kd.C (Kd.slice 3 (Kd.int .i64)) w A0_2 l0_2.length l0_2) (hc0_2 : l0_2.length ≤ c0_2) (h : impl_FromLoops.f a0_0 l0_1 l0_2 = some (r1, r2)) :
  Calls Try.prog 20 #[.agg #[.int .i64 a0_0, .slice A0_1 l0_1.length c0_1, .slice A0_2 l0_2.length c0_2]] w fun e w' => ∃ v0_ : Value, e = .returned (.tuple #[v0_, .bool r2]) ∧ Kd.S (Kd.slice 3 (Kd.int .i64)) 41 w' w.heap.size (fun _ => True) v0_ r1 ∧ Below w.heap.size w w' := by
 have hfr := Option.some.inj h
 have hu := Try.underlying25
 have hSD := fun W => impl_isSide.calls' a0_0 W
 have hTA := fun W (hb : Below w.heap.size w W) => impl_isTable.calls A0_1 c0_1 l0_1 a0_0 (a0_0 + 1) _ W (Kd.C_below hr0_1 hb) hc0_1 rfl
 have hTD := fun W (hb : Below w.heap.size w W) => impl_isTable.calls A0_2 c0_2 l0_2 (a0_0 + 1) a0_0 _ W (Kd.C_below hr0_2 hb) hc0_2 rfl
 have h6 : -100 ≤ a0_0 ∧ a0_0 ≤ 100 ∨ True := .inr trivial
 clear h6
 cases hs : inB a0_0 1 6 with
 | false =>
  rw [hs] at hSD
  have HSD := Aside0.mk hSD
  clear hSD hTA hTD
  have hfr2 : ([], false) = (r1, r2) := by rw [← hfr]; unfold fromR; rw [hs]; rfl
  obtain ⟨rfl, rfl⟩ := Prod.mk.inj hfr2
  clear hs hr0_1 hr0_2 h hfr hfr2 hc0_1 hc0_2
  go_enter Try.func20, Try.ntmps20
  go_wp2_with (first | ((with_reducible refine gate_dst (N := 1) rfl ?_); refine box_event ?hg (N := 1) ?hd (cs := #[.int .i64 a0_0, .slice A0_1 l0_1.length c0_1, .slice A0_2 l0_2.length c0_2]) (t := 25) ?hr ?_; (case hd => rfl); (case hg => rfl); (case hr => first | (go_simp; done) | (go_simp; rfl)); intro gb hg W1 hbox hb; have HBX := Aside0.mk hbox; have HB := Aside0.mk hb; have hx0 : W1.cell? ⟨gb, 0, none⟩ = some (.int .i64 a0_0) := (blk_cell hbox 0).trans rfl; have hx1 : W1.cell? ⟨gb, 1, none⟩ = some (.slice A0_1 l0_1.length c0_1) := (blk_cell hbox 1).trans rfl; have hx2 : W1.cell? ⟨gb, 2, none⟩ = some (.slice A0_2 l0_2.length c0_2) := (blk_cell hbox 2).trans rfl; clear hbox hb hg) | (go_at_call 32; refine (HSD.out _).mono ?_; rintro e w2 ⟨rfl, hd⟩; have hb := hd.below; clear hd; have hx1 := pw_cell_below hb hx1; have hx2 := pw_cell_below hb hx2; (have n_ := Aside0.mk (blk_below HBX.out hb)); clear HBX; have HBX := n_; clear n_; (have n_ := Aside0.mk (below_step HB.out hb)); clear HB; have HB := n_; clear n_ hb))
  go_ret2
  exact ⟨_, rfl, Kd.S_nil _ _ _ _ _, HB.out⟩
 | true =>
  rw [hs] at hSD
  have HSD := Aside0.mk hSD
  obtain ⟨hn1, hn6⟩ := (inB_iff a0_0 1 6).1 hs
  have hw1 : IntKind.i64.wrap (a0_0 + 1) = a0_0 + 1 := IntWalk.i64_in _ ⟨by omega, by omega⟩
  cases ha : tabB l0_1 a0_0 (a0_0 + 1) with
  | false =>
   rw [ha] at hTA
   have HTA := Aside0.mk hTA
   clear hSD hTA hTD
   have hfr2 : ([], false) = (r1, r2) := by rw [← hfr]; unfold fromR; rw [hs, ha]; rfl
   obtain ⟨rfl, rfl⟩ := Prod.mk.inj hfr2
   clear hs ha hr0_1 hr0_2 h hfr hfr2 hc0_1 hc0_2
   go_enter Try.func20, Try.ntmps20
   go_wp2_with (first | ((with_reducible refine gate_dst (N := 1) rfl ?_); refine box_event ?hg (N := 1) ?hd (cs := #[.int .i64 a0_0, .slice A0_1 l0_1.length c0_1, .slice A0_2 l0_2.length c0_2]) (t := 25) ?hr ?_; (case hd => rfl); (case hg => rfl); (case hr => first | (go_simp; done) | (go_simp; rfl)); intro gb hg W1 hbox hb; have HBX := Aside0.mk hbox; have HB := Aside0.mk hb; have hx0 : W1.cell? ⟨gb, 0, none⟩ = some (.int .i64 a0_0) := (blk_cell hbox 0).trans rfl; have hx1 : W1.cell? ⟨gb, 1, none⟩ = some (.slice A0_1 l0_1.length c0_1) := (blk_cell hbox 1).trans rfl; have hx2 : W1.cell? ⟨gb, 2, none⟩ = some (.slice A0_2 l0_2.length c0_2) := (blk_cell hbox 2).trans rfl; clear hbox hb hg) | (go_at_call 32; refine (HSD.out _).mono ?_; rintro e w2 ⟨rfl, hd⟩; have hb := hd.below; clear hd; have hx1 := pw_cell_below hb hx1; have hx2 := pw_cell_below hb hx2; (have n_ := Aside0.mk (blk_below HBX.out hb)); clear HBX; have HBX := n_; clear n_; (have n_ := Aside0.mk (below_step HB.out hb)); clear HB; have HB := n_; clear n_ hb) | (go_at_call 33; (with_reducible refine (HTA.out _ HB.out).mono ?_); rintro e w3 ⟨rfl, hb⟩; have hx1 := pw_cell_below hb hx1; have hx2 := pw_cell_below hb hx2; (have n_ := Aside0.mk (blk_below HBX.out hb)); clear HBX; have HBX := n_; clear n_; (have n_ := Aside0.mk (below_step HB.out hb)); clear HB; have HB := n_; clear n_ hb))
   go_ret2
   exact ⟨_, rfl, Kd.S_nil _ _ _ _ _, HB.out⟩
  | true =>
   rw [ha] at hTA
   have HTA := Aside0.mk hTA
   cases hd : tabB l0_2 (a0_0 + 1) a0_0 with
   | false =>
    rw [hd] at hTD
    have HTD := Aside0.mk hTD
    clear hSD hTA hTD
    have hfr2 : ([], false) = (r1, r2) := by rw [← hfr]; unfold fromR; rw [hs, ha, hd]; rfl
    obtain ⟨rfl, rfl⟩ := Prod.mk.inj hfr2
    clear hs ha hd hr0_1 hr0_2 h hfr hfr2 hc0_1 hc0_2
    go_enter Try.func20, Try.ntmps20
    go_wp2_with (first | ((with_reducible refine gate_dst (N := 1) rfl ?_); refine box_event ?hg (N := 1) ?hd (cs := #[.int .i64 a0_0, .slice A0_1 l0_1.length c0_1, .slice A0_2 l0_2.length c0_2]) (t := 25) ?hr ?_; (case hd => rfl); (case hg => rfl); (case hr => first | (go_simp; done) | (go_simp; rfl)); intro gb hg W1 hbox hb; have HBX := Aside0.mk hbox; have HB := Aside0.mk hb; have hx0 : W1.cell? ⟨gb, 0, none⟩ = some (.int .i64 a0_0) := (blk_cell hbox 0).trans rfl; have hx1 : W1.cell? ⟨gb, 1, none⟩ = some (.slice A0_1 l0_1.length c0_1) := (blk_cell hbox 1).trans rfl; have hx2 : W1.cell? ⟨gb, 2, none⟩ = some (.slice A0_2 l0_2.length c0_2) := (blk_cell hbox 2).trans rfl; clear hbox hb hg) | (go_at_call 32; refine (HSD.out _).mono ?_; rintro e w2 ⟨rfl, hd⟩; have hb := hd.below; clear hd; have hx1 := pw_cell_below hb hx1; have hx2 := pw_cell_below hb hx2; (have n_ := Aside0.mk (blk_below HBX.out hb)); clear HBX; have HBX := n_; clear n_; (have n_ := Aside0.mk (below_step HB.out hb)); clear HB; have HB := n_; clear n_ hb) | (go_at_call 33; (with_reducible refine (HTA.out _ HB.out).mono ?_); rintro e w3 ⟨rfl, hb⟩; have hx1 := pw_cell_below hb hx1; have hx2 := pw_cell_below hb hx2; (have n_ := Aside0.mk (blk_below HBX.out hb)); clear HBX; have HBX := n_; clear n_; (have n_ := Aside0.mk (below_step HB.out hb)); clear HB; have HB := n_; clear n_ hb) | (go_at_call 33; (with_reducible refine (HTD.out _ HB.out).mono ?_); rintro e w4 ⟨rfl, hb⟩; have hx1 := pw_cell_below hb hx1; have hx2 := pw_cell_below hb hx2; (have n_ := Aside0.mk (blk_below HBX.out hb)); clear HBX; have HBX := n_; clear n_; (have n_ := Aside0.mk (below_step HB.out hb)); clear HB; have HB := n_; clear n_ hb))
    go_ret2
    exact ⟨_, rfl, Kd.S_nil _ _ _ _ _, HB.out⟩
   | true =>
    rw [hd] at hTD
    have HTD := Aside0.mk hTD
    have eg1 : ∀ args w, (callFunc 34 args).run Try.prog w = .ok (.enter 34 args) w := enters_of Try.func34 (by kernel_rfl) rfl
    have eg2 : ∀ args w, (callFunc 36 args).run Try.prog w = .ok (.enter 36 args) w := enters_of Try.func36 (by kernel_rfl) rfl
    obtain ⟨n, rfl⟩ := Int.eq_ofNat_of_zero_le (show 0 ≤ a0_0 by omega)
    obtain ⟨hal, har⟩ := tabB_at ha
    have hal2 : l0_1.length = n := by omega
    obtain ⟨m, hm⟩ : ∃ m, m = fromM (n : Int) l0_1 := ⟨_, rfl⟩
    have hmT : m = tableL (numF l0_1) n n := hm
    have HFR := Aside0.mk (show (if isSign m = true then (if acM m = l0_1 ∧ dnM m = l0_2 then (m, true) else ([], false)) else (([] : List (List Int)), false)) = (r1, r2) by rw [← hfr, hm]; unfold fromR; rw [hs, ha, hd]; rfl)
    have HTB := Aside0.mk (fun (W : World) (gb b5 : Nat) (hb : Below w.heap.size w W) (hbx : BoxS W gb (n : Int) A0_1 l0_1.length c0_1 A0_2 l0_2.length c0_2) (h5 : W.cell? ⟨b5, 0, none⟩ = some (.func (.func 34) #[] #[.pointer (some ⟨gb, 0, none⟩)])) => show Calls Try.prog 35 #[.int .i64 n, .int .i64 n, .func (.func 36) #[] #[.pointer (some ⟨b5, 0, none⟩)]] W _ from impl_tableC.calls 36 #[.pointer (some ⟨b5, 0, none⟩)] (numF l0_1) n n W (by omega) (by omega) eg2 (fun i j W' hi hj hb' => fromLoops_2.calls n l0_1 i j gb b5 A0_1 c0_1 A0_2 l0_2.length c0_2 W' (blk_below hbx hb') (Kd.C_below (Kd.C_below hr0_1 hb) hb') (by omega) (by have := (har i (by omega)).1; omega) (by omega) (by omega) (fun q hq => (har i (by omega)).2 q hq) (pw_cell_below hb' h5)))
    rw [← hmT] at HTB
    have HMS := Aside0.mk (fun (A : Option Addr) (c : Nat) (W : World) hC hc => impl_IsSignMatrix.calls' A c m W hC hc)
    have HML := Aside0.mk (show m.length = n by rw [hmT]; exact tableL_length _ _ _)
    have hnl : 1 ≤ n ∧ n ≤ 6 := by omega
    clear hal2 hSD hTA hTD eg2 ha hd hs har hal hfr h hm hmT
    go_enter Try.func20, Try.ntmps20
    go_wp2_with (first | ((with_reducible refine gate_dst (N := 1) rfl ?_); refine box_event ?hg (N := 1) ?hd (cs := #[.int .i64 (n : Int), .slice A0_1 l0_1.length c0_1, .slice A0_2 l0_2.length c0_2]) (t := 25) ?hr ?_; (case hd => rfl); (case hg => rfl); (case hr => first | (go_simp; done) | (go_simp; rfl)); intro gb hg W1 hbox hb; have HBX := Aside0.mk hbox; have HB := Aside0.mk hb; have hx0 : W1.cell? ⟨gb, 0, none⟩ = some (.int .i64 (n : Int)) := (blk_cell hbox 0).trans rfl; have hx1 : W1.cell? ⟨gb, 1, none⟩ = some (.slice A0_1 l0_1.length c0_1) := (blk_cell hbox 1).trans rfl; have hx2 : W1.cell? ⟨gb, 2, none⟩ = some (.slice A0_2 l0_2.length c0_2) := (blk_cell hbox 2).trans rfl; clear hbox hb hg) | (go_at_call 32; refine (HSD.out _).mono ?_; rintro e w2 ⟨rfl, hd⟩; have hb := hd.below; clear hd; have hx1 := pw_cell_below hb hx1; have hx2 := pw_cell_below hb hx2; (have n_ := Aside0.mk (blk_below HBX.out hb)); clear HBX; have HBX := n_; clear n_; (have n_ := Aside0.mk (below_step HB.out hb)); clear HB; have HB := n_; clear n_ hb) | (go_at_call 33; (with_reducible refine (HTA.out _ HB.out).mono ?_); rintro e w3 ⟨rfl, hb⟩; have hx1 := pw_cell_below hb hx1; have hx2 := pw_cell_below hb hx2; (have n_ := Aside0.mk (blk_below HBX.out hb)); clear HBX; have HBX := n_; clear n_; (have n_ := Aside0.mk (below_step HB.out hb)); clear HB; have HB := n_; clear n_ hb) | (go_at_call 33; (with_reducible refine (HTD.out _ HB.out).mono ?_); rintro e w4 ⟨rfl, hb⟩; have hx1 := pw_cell_below hb hx1; have hx2 := pw_cell_below hb hx2; (have n_ := Aside0.mk (blk_below HBX.out hb)); clear HBX; have HBX := n_; clear n_; (have n_ := Aside0.mk (below_step HB.out hb)); clear HB; have HB := n_; clear n_ hb) | (go_at_call 35; obtain ⟨w5, hw5⟩ : ∃ w5, w5 = w4.alloc (.cells #[.func (.func 34) #[] #[.pointer (some ⟨gb, 0, none⟩)]] 48) := ⟨_, rfl⟩; rw [← hw5]; have hb5 : Below w4.heap.size w4 w5 := (by rw [hw5]; exact below_alloc (Below.refl _ _) _); have hc5 : w5.cell? ⟨w4.heap.size, 0, none⟩ = some (.func (.func 34) #[] #[.pointer (some ⟨gb, 0, none⟩)]) := (by rw [hw5]; exact blk_cell (blk_new _ _) 0); refine (HTB.out w5 gb w4.heap.size (below_step HB.out hb5) (blk_below HBX.out hb5) hc5).mono ?_; rintro e w6 ⟨v, rfl, hS, hb⟩; have HB5 := Aside0.mk (below_step HB.out hb5); have HX6 := Aside0.mk (blk_below (blk_below HBX.out hb5) hb); obtain ⟨g, c, rfl, _⟩ := Kd.S_form hS (by rw [HML.out]; omega); have HS6 := Aside0.mk (Kd.S_lower hS HB5.out.size); have HB6 := Aside0.mk (below_step HB5.out hb); clear hS hb hb5 hc5 hw5))
    have hC6 := Kd.S_reads' HS6.out
    have hsg := HMS.out (some ⟨g, 0, none⟩) c w6 hC6.2.2 hC6.2.1
    clear hC6 hx1 hx2
    cases hsm : isSign m with
    | false =>
     rw [hsm] at hsg
     have hfr := HFR.out
     rw [hsm, if_neg (by simp)] at hfr
     obtain ⟨rfl, rfl⟩ := Prod.mk.inj hfr
     clear hsm hfr
     go_wp2_with ((go_at_call 26; refine hsg.mono ?_; rintro e w7 ⟨rfl, hb⟩; have HB7 := Aside0.mk (below_step HB6.out hb); have HX7 := Aside0.mk (blk_below HX6.out hb); have HS7 := Aside0.mk (Kd.S_below HS6.out hb); clear hb))
     go_ret2
     exact ⟨_, rfl, Kd.S_nil _ _ _ _ _, HB7.out⟩
    | true =>
     rw [hsm] at hsg
     have hfr := HFR.out
     rw [hsm, if_pos rfl] at hfr
     have HFR2 := Aside0.mk hfr
     have HLF := Aside0.mk (show impl_loops.f m = some ((m.length : Int), acM m, dnM m) by unfold impl_loops.f; rw [if_pos hsm])
     clear hsm hfr
     have HR1 := Aside0.mk hr0_1
     have HR2 := Aside0.mk hr0_2
     obtain ⟨c1, hc1⟩ : ∃ x, x = cmpT (acM m) l0_1 := ⟨_, rfl⟩
     obtain ⟨c2, hc2⟩ : ∃ x, x = cmpT (dnM m) l0_2 := ⟨_, rfl⟩
     have HC1 := Aside0.mk hc1.symm
     have HC2 := Aside0.mk hc2.symm
     clear hr0_1 hr0_2 hc0_1 hc0_2 hc1 hc2
     by_cases e1 : c1 = 0
     ·have h1 : (c1 != 0) = false := by rw [bne_eq_false_iff_eq]; exact e1
      by_cases e2 : c2 = 0
      ·have h2 : (c2 != 0) = false := by rw [bne_eq_false_iff_eq]; exact e2
       have hfr := HFR2.out
       rw [if_pos ⟨(cmpT_zero _ _).1 (HC1.out.trans e1), (cmpT_zero _ _).1 (HC2.out.trans e2)⟩] at hfr
       obtain ⟨rfl, rfl⟩ := Prod.mk.inj hfr
       clear hfr e1 e2 HFR HFR2
       go_wp2_with (first | (go_at_call 26; refine hsg.mono ?_; rintro e w7 ⟨rfl, hb⟩; have HB7 := Aside0.mk (below_step HB6.out hb); have HX7 := Aside0.mk (blk_below HX6.out hb); have HS7 := Aside0.mk (Kd.S_below HS6.out hb); clear hb) | (go_at_call 27; refine (impl_loops.calls (some ⟨g, 0, none⟩) c m _ _ _ w7 (Kd.S_reads' HS7.out).2.2 (Kd.S_reads' HS7.out).2.1 HLF.out).mono ?_; rintro e w8 ⟨va, vd, rfl, hSa, hSd, hb⟩; obtain ⟨Aa, ca, rfl⟩ := Kd.S_slice hSa; obtain ⟨Ad, cd, rfl⟩ := Kd.S_slice hSd; have HAa := Aside0.mk (Kd.S_reads' hSa).2.2; have HDa := Aside0.mk (Kd.S_reads' hSd).2.2; have HB8 := Aside0.mk (below_step HB7.out hb); have HX8 := Aside0.mk (blk_below HX7.out hb); have HS8 := Aside0.mk (Kd.S_below HS7.out hb); clear hSa hSd hb) | ((with_reducible refine gate_dst (N := 7) rfl ?_); refine box_event ?hg (N := 7) ?hd (cs := #[.int .i64 0, .slice none 0 0, .slice none 0 0]) (t := 25) ?hr ?_; (case hd => rfl); (case hg => rfl); (case hr => first | (go_simp; done) | (go_simp; rfl)); intro g7 hg7 w9 hbox hb; have BK := Aside0.mk hbox; have HB9 := Aside0.mk hb; have HG7 := Aside0.mk (show w8.heap.size ≤ g7 by rw [hg7]; exact Nat.le_refl _); clear hbox hb hg7; have hcz0 : w9.cell? ⟨g7, 0, none⟩ = some (.int .i64 0) := (blk_cell BK.out 0).trans rfl; have hcz1 : w9.cell? ⟨g7, 1, none⟩ = some (.slice none 0 0) := (blk_cell BK.out 1).trans rfl; have hcz2 : w9.cell? ⟨g7, 2, none⟩ = some (.slice none 0 0) := (blk_cell BK.out 2).trans rfl; have hfz0 := blk_frozen BK.out 0; have hfz1 := blk_frozen BK.out 1; have hfz2 := blk_frozen BK.out 2; have hx1 : w9.cell? ⟨gb, 1, none⟩ = some (.slice A0_1 l0_1.length c0_1) := (blk_cell (blk_below HX8.out HB9.out) 1).trans rfl; have hgne : ¬ g7 = gb := (by have := blk_lt HX8.out; have := HG7.out; omega); have hgne2 : ¬ gb = g7 := (fun e => hgne e.symm)) | (go_at_call 37; obtain ⟨w10, hw10⟩ : ∃ w10, w10 = ((w9.setCell ⟨g7, 0, none⟩ (.int .i64 m.length)).setCell ⟨g7, 1, none⟩ (.slice Aa (acM m).length ca)).setCell ⟨g7, 2, none⟩ (.slice Ad (dnM m).length cd) := ⟨_, rfl⟩; rw [← hw10]; have hb10 : Below w8.heap.size w8 w10 := (by rw [hw10]; exact ((HB9.out.setCell (p := ⟨g7, 0, none⟩) HG7.out _).setCell (p := ⟨g7, 1, none⟩) HG7.out _).setCell (p := ⟨g7, 2, none⟩) HG7.out _); have hbk10 : w10.heap[g7]? = some (.cells #[.int .i64 (m.length : Int), .slice Aa (acM m).length ca, .slice Ad (dnM m).length cd] 25 (0, 0)) := (by rw [hw10]; refine blk_put (cs := #[.int .i64 (m.length : Int), .slice Aa (acM m).length ca, .slice none 0 0]) ?_ 2 _ rfl; refine blk_put (cs := #[.int .i64 (m.length : Int), .slice none 0 0, .slice none 0 0]) ?_ 1 _ rfl; exact blk_put (cs := #[.int .i64 0, .slice none 0 0, .slice none 0 0]) BK.out 0 _ rfl); clear hcz0 hcz1 hcz2 hfz0 hfz1 hfz2 hx1; refine (impl_compareTables.calls' Aa ca (acM m) A0_1 c0_1 l0_1 w10 (Kd.C_below HAa.out hb10) (Kd.C_below HR1.out (below_step HB8.out hb10))).mono ?_; rintro e w11 ⟨rfl, hb⟩; rw [HC1.out]; have HB11 := Aside0.mk (hb10.trans (hb.mono hb10.size)); have hy2 : w11.cell? ⟨g7, 2, none⟩ = some (.slice Ad (dnM m).length cd) := (blk_cell (blk_below hbk10 hb) 2).trans rfl; have hx2 : w11.cell? ⟨gb, 2, none⟩ = some (.slice A0_2 l0_2.length c0_2) := (blk_cell (blk_below HX8.out HB11.out) 2).trans rfl; clear hb hb10 hbk10 hw10) | (go_at_call 37; refine (impl_compareTables.calls' Ad cd (dnM m) A0_2 c0_2 l0_2 w11 (Kd.C_below HDa.out HB11.out) (Kd.C_below HR2.out (below_step HB8.out HB11.out))).mono ?_; rintro e w12 ⟨rfl, hb⟩; rw [HC2.out]; have HB12 := Aside0.mk (HB11.out.trans (hb.mono HB11.out.size)); clear hb))
       go_ret2
       exact ⟨_, rfl, Kd.S_below HS8.out HB12.out, below_step HB8.out HB12.out⟩
      ·have h2 : (c2 != 0) = true := by rw [bne_iff_ne]; exact e2
       have hfr := HFR2.out
       rw [if_neg (fun h => e2 (HC2.out.symm.trans ((cmpT_zero _ _).2 h.2)))] at hfr
       obtain ⟨rfl, rfl⟩ := Prod.mk.inj hfr
       clear hfr e1 e2 HFR HFR2
       go_wp2_with (first | (go_at_call 26; refine hsg.mono ?_; rintro e w7 ⟨rfl, hb⟩; have HB7 := Aside0.mk (below_step HB6.out hb); have HX7 := Aside0.mk (blk_below HX6.out hb); have HS7 := Aside0.mk (Kd.S_below HS6.out hb); clear hb) | (go_at_call 27; refine (impl_loops.calls (some ⟨g, 0, none⟩) c m _ _ _ w7 (Kd.S_reads' HS7.out).2.2 (Kd.S_reads' HS7.out).2.1 HLF.out).mono ?_; rintro e w8 ⟨va, vd, rfl, hSa, hSd, hb⟩; obtain ⟨Aa, ca, rfl⟩ := Kd.S_slice hSa; obtain ⟨Ad, cd, rfl⟩ := Kd.S_slice hSd; have HAa := Aside0.mk (Kd.S_reads' hSa).2.2; have HDa := Aside0.mk (Kd.S_reads' hSd).2.2; have HB8 := Aside0.mk (below_step HB7.out hb); have HX8 := Aside0.mk (blk_below HX7.out hb); have HS8 := Aside0.mk (Kd.S_below HS7.out hb); clear hSa hSd hb) | ((with_reducible refine gate_dst (N := 7) rfl ?_); refine box_event ?hg (N := 7) ?hd (cs := #[.int .i64 0, .slice none 0 0, .slice none 0 0]) (t := 25) ?hr ?_; (case hd => rfl); (case hg => rfl); (case hr => first | (go_simp; done) | (go_simp; rfl)); intro g7 hg7 w9 hbox hb; have BK := Aside0.mk hbox; have HB9 := Aside0.mk hb; have HG7 := Aside0.mk (show w8.heap.size ≤ g7 by rw [hg7]; exact Nat.le_refl _); clear hbox hb hg7; have hcz0 : w9.cell? ⟨g7, 0, none⟩ = some (.int .i64 0) := (blk_cell BK.out 0).trans rfl; have hcz1 : w9.cell? ⟨g7, 1, none⟩ = some (.slice none 0 0) := (blk_cell BK.out 1).trans rfl; have hcz2 : w9.cell? ⟨g7, 2, none⟩ = some (.slice none 0 0) := (blk_cell BK.out 2).trans rfl; have hfz0 := blk_frozen BK.out 0; have hfz1 := blk_frozen BK.out 1; have hfz2 := blk_frozen BK.out 2; have hx1 : w9.cell? ⟨gb, 1, none⟩ = some (.slice A0_1 l0_1.length c0_1) := (blk_cell (blk_below HX8.out HB9.out) 1).trans rfl; have hgne : ¬ g7 = gb := (by have := blk_lt HX8.out; have := HG7.out; omega); have hgne2 : ¬ gb = g7 := (fun e => hgne e.symm)) | (go_at_call 37; obtain ⟨w10, hw10⟩ : ∃ w10, w10 = ((w9.setCell ⟨g7, 0, none⟩ (.int .i64 m.length)).setCell ⟨g7, 1, none⟩ (.slice Aa (acM m).length ca)).setCell ⟨g7, 2, none⟩ (.slice Ad (dnM m).length cd) := ⟨_, rfl⟩; rw [← hw10]; have hb10 : Below w8.heap.size w8 w10 := (by rw [hw10]; exact ((HB9.out.setCell (p := ⟨g7, 0, none⟩) HG7.out _).setCell (p := ⟨g7, 1, none⟩) HG7.out _).setCell (p := ⟨g7, 2, none⟩) HG7.out _); have hbk10 : w10.heap[g7]? = some (.cells #[.int .i64 (m.length : Int), .slice Aa (acM m).length ca, .slice Ad (dnM m).length cd] 25 (0, 0)) := (by rw [hw10]; refine blk_put (cs := #[.int .i64 (m.length : Int), .slice Aa (acM m).length ca, .slice none 0 0]) ?_ 2 _ rfl; refine blk_put (cs := #[.int .i64 (m.length : Int), .slice none 0 0, .slice none 0 0]) ?_ 1 _ rfl; exact blk_put (cs := #[.int .i64 0, .slice none 0 0, .slice none 0 0]) BK.out 0 _ rfl); clear hcz0 hcz1 hcz2 hfz0 hfz1 hfz2 hx1; refine (impl_compareTables.calls' Aa ca (acM m) A0_1 c0_1 l0_1 w10 (Kd.C_below HAa.out hb10) (Kd.C_below HR1.out (below_step HB8.out hb10))).mono ?_; rintro e w11 ⟨rfl, hb⟩; rw [HC1.out]; have HB11 := Aside0.mk (hb10.trans (hb.mono hb10.size)); have hy2 : w11.cell? ⟨g7, 2, none⟩ = some (.slice Ad (dnM m).length cd) := (blk_cell (blk_below hbk10 hb) 2).trans rfl; have hx2 : w11.cell? ⟨gb, 2, none⟩ = some (.slice A0_2 l0_2.length c0_2) := (blk_cell (blk_below HX8.out HB11.out) 2).trans rfl; clear hb hb10 hbk10 hw10) | (go_at_call 37; refine (impl_compareTables.calls' Ad cd (dnM m) A0_2 c0_2 l0_2 w11 (Kd.C_below HDa.out HB11.out) (Kd.C_below HR2.out (below_step HB8.out HB11.out))).mono ?_; rintro e w12 ⟨rfl, hb⟩; rw [HC2.out]; have HB12 := Aside0.mk (HB11.out.trans (hb.mono HB11.out.size)); clear hb))
       go_ret2
       exact ⟨_, rfl, Kd.S_nil _ _ _ _ _, below_step HB8.out HB12.out⟩
     ·have h1 : (c1 != 0) = true := by rw [bne_iff_ne]; exact e1
      have hfr := HFR2.out
      rw [if_neg (fun h => e1 (HC1.out.symm.trans ((cmpT_zero _ _).2 h.1)))] at hfr
      obtain ⟨rfl, rfl⟩ := Prod.mk.inj hfr
      clear hfr e1 HFR HFR2
      go_wp2_with (first | (go_at_call 26; refine hsg.mono ?_; rintro e w7 ⟨rfl, hb⟩; have HB7 := Aside0.mk (below_step HB6.out hb); have HX7 := Aside0.mk (blk_below HX6.out hb); have HS7 := Aside0.mk (Kd.S_below HS6.out hb); clear hb) | (go_at_call 27; refine (impl_loops.calls (some ⟨g, 0, none⟩) c m _ _ _ w7 (Kd.S_reads' HS7.out).2.2 (Kd.S_reads' HS7.out).2.1 HLF.out).mono ?_; rintro e w8 ⟨va, vd, rfl, hSa, hSd, hb⟩; obtain ⟨Aa, ca, rfl⟩ := Kd.S_slice hSa; obtain ⟨Ad, cd, rfl⟩ := Kd.S_slice hSd; have HAa := Aside0.mk (Kd.S_reads' hSa).2.2; have HDa := Aside0.mk (Kd.S_reads' hSd).2.2; have HB8 := Aside0.mk (below_step HB7.out hb); have HX8 := Aside0.mk (blk_below HX7.out hb); have HS8 := Aside0.mk (Kd.S_below HS7.out hb); clear hSa hSd hb) | ((with_reducible refine gate_dst (N := 7) rfl ?_); refine box_event ?hg (N := 7) ?hd (cs := #[.int .i64 0, .slice none 0 0, .slice none 0 0]) (t := 25) ?hr ?_; (case hd => rfl); (case hg => rfl); (case hr => first | (go_simp; done) | (go_simp; rfl)); intro g7 hg7 w9 hbox hb; have BK := Aside0.mk hbox; have HB9 := Aside0.mk hb; have HG7 := Aside0.mk (show w8.heap.size ≤ g7 by rw [hg7]; exact Nat.le_refl _); clear hbox hb hg7; have hcz0 : w9.cell? ⟨g7, 0, none⟩ = some (.int .i64 0) := (blk_cell BK.out 0).trans rfl; have hcz1 : w9.cell? ⟨g7, 1, none⟩ = some (.slice none 0 0) := (blk_cell BK.out 1).trans rfl; have hcz2 : w9.cell? ⟨g7, 2, none⟩ = some (.slice none 0 0) := (blk_cell BK.out 2).trans rfl; have hfz0 := blk_frozen BK.out 0; have hfz1 := blk_frozen BK.out 1; have hfz2 := blk_frozen BK.out 2; have hx1 : w9.cell? ⟨gb, 1, none⟩ = some (.slice A0_1 l0_1.length c0_1) := (blk_cell (blk_below HX8.out HB9.out) 1).trans rfl; have hgne : ¬ g7 = gb := (by have := blk_lt HX8.out; have := HG7.out; omega); have hgne2 : ¬ gb = g7 := (fun e => hgne e.symm)) | (go_at_call 37; obtain ⟨w10, hw10⟩ : ∃ w10, w10 = ((w9.setCell ⟨g7, 0, none⟩ (.int .i64 m.length)).setCell ⟨g7, 1, none⟩ (.slice Aa (acM m).length ca)).setCell ⟨g7, 2, none⟩ (.slice Ad (dnM m).length cd) := ⟨_, rfl⟩; rw [← hw10]; have hb10 : Below w8.heap.size w8 w10 := (by rw [hw10]; exact ((HB9.out.setCell (p := ⟨g7, 0, none⟩) HG7.out _).setCell (p := ⟨g7, 1, none⟩) HG7.out _).setCell (p := ⟨g7, 2, none⟩) HG7.out _); have hbk10 : w10.heap[g7]? = some (.cells #[.int .i64 (m.length : Int), .slice Aa (acM m).length ca, .slice Ad (dnM m).length cd] 25 (0, 0)) := (by rw [hw10]; refine blk_put (cs := #[.int .i64 (m.length : Int), .slice Aa (acM m).length ca, .slice none 0 0]) ?_ 2 _ rfl; refine blk_put (cs := #[.int .i64 (m.length : Int), .slice none 0 0, .slice none 0 0]) ?_ 1 _ rfl; exact blk_put (cs := #[.int .i64 0, .slice none 0 0, .slice none 0 0]) BK.out 0 _ rfl); clear hcz0 hcz1 hcz2 hfz0 hfz1 hfz2 hx1; refine (impl_compareTables.calls' Aa ca (acM m) A0_1 c0_1 l0_1 w10 (Kd.C_below HAa.out hb10) (Kd.C_below HR1.out (below_step HB8.out hb10))).mono ?_; rintro e w11 ⟨rfl, hb⟩; rw [HC1.out]; have HB11 := Aside0.mk (hb10.trans (hb.mono hb10.size)); have hy2 : w11.cell? ⟨g7, 2, none⟩ = some (.slice Ad (dnM m).length cd) := (blk_cell (blk_below hbk10 hb) 2).trans rfl; have hx2 : w11.cell? ⟨gb, 2, none⟩ = some (.slice A0_2 l0_2.length c0_2) := (blk_cell (blk_below HX8.out HB11.out) 2).trans rfl; clear hb hb10 hbk10 hw10))
      go_ret2
      exact ⟨_, rfl, Kd.S_nil _ _ _ _ _, below_step HB8.out HB11.out⟩
end Go.Proofs.Ytbihfdadnkmckaa

namespace Go.Proofs.Ytbihfdadnkmckaa
open Go.RowKit Go.Proofs.YtbihfdadnkmckaaW.PrintWords Go.Proofs.YtbihfdadnkmckaaW.PrintLast Go.Proofs.YtbihfdadnkmckaaW.PrintMore
set_option linter.unusedVariables false

/-- The sum of the first j numbers of the first i rows. -/
def cs (l : List (List Int)) : Nat → Nat → Int
 | 0, _ => 0
 | i + 1, j => cs l i j + ps (l.getD i []) j
/-- Heights: the borders are told, and neighbours differ by one. -/
structure HOK (n : Nat) (h : Nat → Nat → Int) : Prop where
 top : ∀ j, j ≤ n → h 0 j = j
 left : ∀ i, i ≤ n → h i 0 = i
 across : ∀ i j, i ≤ n → j < n → h i (j + 1) = h i j + 1 ∨ h i (j + 1) = h i j - 1
 down : ∀ i j, i < n → j ≤ n → h (i + 1) j = h i j + 1 ∨ h (i + 1) j = h i j - 1
 right : ∀ i, i ≤ n → h i n = n - i
 bottom : ∀ j, j ≤ n → h n j = n - j
theorem HOK.half {n : Nat} {h : Nat → Nat → Int} (H : HOK n h) (i : Nat) (hi : i ≤ n) : ∀ j : Nat, j ≤ n → ∃ k : Nat, (i : Int) + j - h i j = 2 * k ∧ k ≤ j
 | 0, _ => ⟨0, by rw [H.left i hi]; omega, Nat.le_refl _⟩
 | j + 1, hj => by
  obtain ⟨k, hk, hkj⟩ := H.half i hi j (by omega)
  rcases H.across i j hi (by omega) with e | e
  ·exact ⟨k, by rw [e]; omega, by omega⟩
  ·exact ⟨k + 1, by rw [e]; omega, by omega⟩
/-- The corner sum that heights tell. -/
def cF (h : Nat → Nat → Int) (i j : Nat) : Int := Int.tdiv ((i : Int) + j - h i j) 2
theorem HOK.cF_range {n : Nat} {h : Nat → Nat → Int} (H : HOK n h) {i j : Nat} (hi : i ≤ n) (hj : j ≤ n) : (i : Int) + j - h i j = 2 * cF h i j ∧ 0 ≤ cF h i j ∧ cF h i j ≤ j := by
 obtain ⟨k, hk, hkj⟩ := H.half i hi j hj
 have : cF h i j = k := by
  unfold cF
  rw [hk, Int.mul_tdiv_cancel_left _ (by decide)]
 omega
theorem HOK.range {n : Nat} {h : Nat → Nat → Int} (H : HOK n h) {i j : Nat} (hi : i ≤ n) (hj : j ≤ n) : (i : Int) - j ≤ h i j ∧ h i j ≤ i + j := by
 have := H.cF_range hi hj
 omega
theorem rd_rowL (f : Nat → Nat → Int) (i n j : Nat) (hj : j < n) : rd (rowL f i n) (j : Int) = f i j := by
 unfold rowL rd
 simp [List.getD_eq_getElem?_getD, hj]
theorem altB_of {l : List Int} (h1 : ∀ j : Nat, j < l.length → -1 ≤ rd l (j : Int) ∧ rd l (j : Int) ≤ 1) (h2 : ∀ j : Nat, j ≤ l.length → 0 ≤ ps l j ∧ ps l j ≤ 1) (h3 : ps l l.length = 1) : altB l = true := by
 have : ∀ d j : Nat, j + d = l.length → altFrom (l.drop j) (ps l j) = true := by
  intro d
  induction d with
  | zero =>
   intro j hj
   have e : j = l.length := by omega
   subst e
   rw [List.drop_length, altFrom, h3]; rfl
  | succ d ih =>
   intro j hj
   rw [altFrom_step l j (by omega) _ ((inB_iff _ _ _).2 (h1 j (by omega))), Bool.and_eq_true]
   exact ⟨(inB_iff _ _ _).2 (h2 (j + 1) (by omega)), ih (j + 1) (by omega)⟩
 exact this l.length 0 (by omega)
theorem isSign_of {m : List (List Int)} (h1 : 1 ≤ m.length) (h2 : m.length ≤ 6) (h3 : ∀ i, i < m.length → (m.getD i []).length = m.length) (h4 : ∀ i, i < m.length → altB (m.getD i []) = true ∧ altB (colL m i) = true) : isSign m = true := by
 simp only [isSign, Bool.and_eq_true]
 refine ⟨(inB_iff _ _ _).2 (by omega), List.all_eq_true.2 fun r hr => ?_, List.all_eq_true.2 fun i hi => ?_⟩
 ·obtain ⟨i, hi, rfl⟩ := List.getElem_of_mem hr
  have := h3 i hi
  rw [getD_at m [] i hi] at this
  exact beq_iff_eq.2 this
 ·rw [List.mem_range'_1] at hi
  have := h4 i (by omega)
  rw [this.1, this.2]; rfl
end Go.Proofs.Ytbihfdadnkmckaa
