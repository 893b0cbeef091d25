/- The program's CountByPattern answers as the reference's CountByPattern, for every number; what comes back is the call's own (the walk of the law FnExactCountByPattern; no condition). -/
import Derived.Test.YthbkjaieenochaaYCountByPattern34
namespace Go.Proofs.Ythbkjaieenochaa.L
open Go.RowKit Go.Proofs.Ythbkjaieenochaa Go.Proofs.Ythbkjaieenochaa.P Go.Proofs.YthbkjaieenochaaW.PrintWords Go.Proofs.YthbkjaieenochaaW.PrintLast Go.Proofs.YthbkjaieenochaaW.PrintMore
set_option linter.unusedVariables false
set_option linter.unusedSimpArgs false

/-- The rank of a pattern in a list. -/
def rkOf (L : List (List Int)) (p : List Int) : Int := idxOf (fun q => decide (q = p)) L
theorem rankOf_1.calls (p x : List Int) (A : Option Addr) (c g : Nat) (Ap : Option Addr) (cp : Nat) (W : World) (hx : W.cell? ⟨g, 0, none⟩ = some (.slice Ap p.length cp)) (hp : Kd.C (Kd.int .i64) W Ap p.length p) (hpc : p.length ≤ cp) (hC : Kd.C (Kd.int .i64) W A x.length x) (hc : x.length ≤ c) (hl : x.length ≤ 1000) :
  Gives Try.prog 99 #[.slice A x.length c, .pointer (some ⟨g, 0, none⟩)] W (.bool (decide (x = p))) := by
 unfold Gives
 have HC := Aside0.mk (slices_Equal_int_int.calls 1001 A c x Ap cp p _ W hC hc hp hpc (eqN x p hl))
 obtain ⟨b, hb⟩ : ∃ b, b = decide (x = p) := ⟨_, rfl⟩
 rw [← hb] at HC ⊢
 clear hp hC hb
 go_enter Try.func99, Try.ntmps99
 go_wp2_with (go_at_call 66; refine HC.out.mono ?_; rintro e w' ⟨rfl, hd⟩; have hb := hd.below; clear hd)
 go_ret
 exact ⟨rfl, hb⟩
theorem impl_rankOf.callsG (L : List (List Int)) (p : List Int) (AL : Option Addr) (cL : Nat) (Ap : Option Addr) (cp : Nat) (W : World) (hL : Kd.C (Kd.slice 3 (Kd.int .i64)) W AL L.length L) (hcL : L.length ≤ cL) (hp : Kd.C (Kd.int .i64) W Ap p.length p) (hpc : p.length ≤ cp) (hl : ∀ x ∈ L, x.length ≤ 1000) :
  Calls Try.prog 70 #[.slice AL L.length cL, .slice Ap p.length cp] W fun e w' => e = .returned (.int .i64 (rkOf L p)) ∧ Below W.heap.size W w' := by
 have eg : ∀ args w, (callFunc 99 args).run Try.prog w = .ok (.enter 99 args) w := enters_of Try.func99 (by kernel_rfl) rfl
 have hB2 : Below W.heap.size W (W.alloc (.cells #[.slice Ap p.length cp] 28)) := below_alloc (Below.refl _ _) _
 have hx : (W.alloc (.cells #[.slice Ap p.length cp] 28)).cell? ⟨W.heap.size, 0, none⟩ = some (.slice Ap p.length cp) := by rw [World.cell?_alloc_at _ _ _ _ rfl]; rfl
 have HCO := Aside0.mk (slices_IndexFunc_rows.calls 99 #[.pointer (some ⟨W.heap.size, 0, none⟩)] (fun q => decide (q = p)) AL cL L (W.alloc (.cells #[.slice Ap p.length cp] 28)) eg
  (fun x A c W' hm hb hcx hc => rankOf_1.calls p x A c _ Ap cp W' (pw_cell_below hb hx) (Kd.C_below (Kd.C_below hp hB2) hb) hpc hcx hc (hl x hm)) (Kd.C_below hL hB2) hcL)
 have HB := Aside0.mk hB2
 have HE := Aside0.mk (show rkOf L p = idxOf (fun q => decide (q = p)) L from rfl)
 obtain ⟨q, hq⟩ : ∃ q, q = idxOf (fun q => decide (q = p)) L := ⟨_, rfl⟩
 rw [← hq] at HCO HE
 rw [HE.out]
 clear hL hp hB2 hx hq hl
 go_enter Try.func70, Try.ntmps70
 go_wp2_with (go_at_call 88; refine HCO.out.mono ?_; rintro e w' ⟨rfl, hb⟩; have HB2 := Aside0.mk hb; clear hb)
 go_ret
 exact ⟨rfl, below_then HB.out HB.out.size HB2.out⟩
set_option maxHeartbeats 2000000 in
theorem cbp_1.calls (L T : List (List Int)) (hs : isSign T = true) (A : Option Addr) (c g : Nat) (AL : Option Addr) (cL : Nat) (W : World) (hx : W.cell? ⟨g, 0, none⟩ = some (.slice AL L.length cL)) (hL : Kd.C (Kd.slice 3 (Kd.int .i64)) W AL L.length L) (hcL : L.length ≤ cL) (hl : ∀ x ∈ L, x.length ≤ 1000) (hC : Kd.C (Kd.slice 3 (Kd.int .i64)) W A T.length T) (hc : T.length ≤ c) :
  Calls Try.prog 69 (#[.slice A T.length c] ++ #[.pointer (some ⟨g, 0, none⟩)]) W fun e w' => e = .returned (.int .i64 (rkOf L (patM T))) ∧ Below W.heap.size W w' := by
 obtain ⟨k, hk⟩ := (impl_pattern_ev hs).rounds
 have HP := Aside0.mk (fun W' (hb : Below W.heap.size W W') => impl_pattern.calls k A c T _ W' (Kd.C_below hC hb) hc hk)
 obtain ⟨p, hp⟩ : ∃ p, p = patM T := ⟨_, rfl⟩
 rw [← hp] at HP ⊢
 have HR := Aside0.mk (fun W' Ap cp (hb : Below W.heap.size W W') h1 h2 => impl_rankOf.callsG L p AL cL Ap cp W' (Kd.C_below hL hb) hcL h1 h2 hl)
 have HX := Aside0.mk hx
 obtain ⟨q, hq⟩ : ∃ q, q = rkOf L p := ⟨_, rfl⟩
 rw [← hq] at HR ⊢
 clear hs hL hC hk hp hq hl
 go_enter Try.func69, Try.ntmps69
 go_wp2
 go_region_held3 (fun Wq => Wq.cell? ⟨g, 0, none⟩ = some (.slice AL L.length cL) ∧ Below W.heap.size W Wq) (first | (have hh_ := ‹_ ∧ Below W.heap.size W _›; exact ⟨pw_cell_below hb4 hh_.1, below_step hh_.2 hb4⟩) | (refine ⟨hx, ?_⟩; repeat (first | exact Below.refl _ _ | apply below_drew))) (first
  | (go_at_call 51; have hh_ := ‹_ ∧ Below W.heap.size W _›; refine (HP.out _ hh_.2).mono ?_; (try clear hb4); clear hh_; rintro e w4 ⟨v, rfl, hR, hb4⟩; obtain ⟨Ap, cp, rfl⟩ := Kd.R_slice hR; have HPC := Aside0.mk (Kd.R_reads' hR).2.2; have HPL := Aside0.mk (Kd.R_reads' hR).2.1; have HPB := Aside0.mk (Below.refl w4.heap.size w4); clear hR)
  | (go_at_call 70; have hh_ := ‹_ ∧ Below W.heap.size W _›; refine (HR.out _ _ _ hh_.2 (Kd.C_below HPC.out (by repeat (first | exact HPB.out | apply below_drew))) HPL.out).mono ?_; (try clear hb4); clear hh_; rintro e w5 ⟨rfl, hb4⟩))
 all_goals
  go_wp2
  go_ret
  have hh_ := ‹_ ∧ Below W.heap.size W _›
  exact ⟨rfl, hh_.2⟩
/-- The counts behind j tables. -/
def cbS (L : List (List Int)) (All : List (List (List Int))) : Nat → List Int
 | 0 => List.replicate L.length 0
 | j + 1 => (cbS L All j).set (rkOf L (patM (All.getD j []))).toNat (wrap64 (rd (cbS L All j) (rkOf L (patM (All.getD j []))) + 1))
theorem cbS_length (L : List (List Int)) (All : List (List (List Int))) : ∀ j, (cbS L All j).length = L.length
 | 0 => by rw [cbS, List.length_replicate]
 | j + 1 => by rw [cbS, List.length_set, cbS_length L All j]
/-- All tables are sign matrices, and their patterns are in the list. -/
def rkOkB (L : List (List Int)) (All : List (List (List Int))) : Bool := All.all fun T => isSign T && (decide (0 ≤ rkOf L (patM T)) && decide (rkOf L (patM T) < L.length))
def CbOk (n : Nat) : Prop := rkOkB (paX n) (esX n) = true ∧ (esX n).length ≤ 1000
theorem rk_at {L : List (List Int)} {All : List (List (List Int))} (h : rkOkB L All = true) {T : List (List Int)} (hT : T ∈ All) : isSign T = true ∧ 0 ≤ rkOf L (patM T) ∧ rkOf L (patM T) < (L.length : Int) := by
 have := List.all_eq_true.1 h T hT
 rw [Bool.and_eq_true, Bool.and_eq_true] at this
 exact ⟨this.1, of_decide_eq_true this.2.1, of_decide_eq_true this.2.2⟩
theorem cbS_step {L : List (List Int)} {All : List (List (List Int))} (h : rkOkB L All = true) (j : Nat) (T : List (List Int)) (hT : All[j]? = some T) : 0 ≤ rkOf L (patM T) ∧ spec_weAdd.l0 1000 (rkOf L (patM T)) (cbS L All j) = some (cbS L All (j + 1)) := by
 obtain ⟨h0, h1, h2⟩ := rk_at h (List.mem_of_getElem? hT)
 have e : All.getD j [] = T := by rw [List.getD_eq_getElem?_getD, hT]; rfl
 refine ⟨h1, ?_⟩
 rw [cbS, e, spec_weAdd.l0, cbS_length, if_neg (by omega), if_pos h1, if_pos h2]
set_option maxHeartbeats 2000000 in
theorem impl_CountByPattern.callsG (n : Nat) (h0 : 1 ≤ n) (h5 : n ≤ 5) (hok : CbOk n) (hES : EachSigns n (esX n)) (w : World) :
  Calls Try.prog 35 #[.int .i64 n] w (RetTR w (cbS (paX n) (esX n) (esX n).length) true) := by
 have eg : ∀ args w, (callFunc 69 args).run Try.prog w = .ok (.enter 69 args) w := enters_of Try.func69 (by kernel_rfl) rfl
 have hwi := fun W => impl_within.calls (n : Int) 1 5 true W (by unfold impl_within.f; congr 1; exact (inB_iff _ _ _).2 ⟨by omega, by omega⟩)
 obtain ⟨_, _, _, hpl, hpa, _⟩ := pa_all (n := n) h0 (by omega)
 have HPT := Aside0.mk (fun W => impl_patterns_calls n h0 (by omega) W)
 have hlen : ∀ x ∈ paX n, x.length ≤ 1000 := fun x hx => by have := of_decide_eq_true (List.all_eq_true.1 hpa x hx); omega
 have HTY := Aside0.mk (fun (W : World) (g : Nat) (AL : Option Addr) (cL : Nat) (hb : W.heap[g]? = some (.cells #[.slice AL (paX n).length cL] 22 (0, 0))) (hF : Kd.F (Kd.slice 3 (Kd.int .i64)) W (fun k => k < W.heap.size) AL (paX n).length (paX n)) (hcL : (paX n).length ≤ cL) =>
  impl_tally.callsG n (paX n).length 69 #[.pointer (some ⟨g, 0, none⟩)] (cbS (paX n) (esX n)) (esX n) (fun T => rkOf (paX n) (patM T)) (by omega) hES eg W
   (fun T A c W' hT hW hC hc => cbp_1.calls (paX n) T (rk_at hok.1 hT).1 A c g AL cL W' (blk_cell ((hW g (blk_lt hb)).trans hb) 0) (Kd.F_now (Kd.F_step hF (fun k hk hlt => hW k hlt))) hcL hlen hC hc) rfl (fun j T hT => cbS_step hok.1 j T hT))
 obtain ⟨R, hR⟩ : ∃ R, R = cbS (paX n) (esX n) (esX n).length := ⟨_, rfl⟩
 rw [← hR] at HTY ⊢
 obtain ⟨L, hL⟩ : ∃ L, L = paX n := ⟨_, rfl⟩
 rw [← hL] at HTY HPT
 have HLL := Aside0.mk (show L.length ≤ 200 by rw [hL]; exact hpl)
 clear hpl hpa hlen hR hL hok hES
 go_enter Try.func35, Try.ntmps35
 go_wp2_with (first
  | (go_at_call 49; refine (hwi _).mono ?_; rintro e w1 ⟨rfl, hd⟩; have HB1 := Aside0.mk hd.below; clear hd)
  | (go_at_call 39; refine (HPT.out _).mono ?_; rintro e w2 ⟨v, rfl, hS, hb⟩; obtain ⟨AL, cL, rfl⟩ := Kd.R_slice (Kd.S_R hS); have HF := Aside0.mk (Kd.F_bound (Kd.S_F hS)); have HCL := Aside0.mk (Kd.R_reads' (Kd.S_R hS)).2.1; have HB2 := Aside0.mk (below_step HB1.out hb); clear hS hb)
  | ((with_reducible refine gate_dst (N := 4) rfl ?_); refine box_event ?hg (N := 4) ?hd (cs := #[.slice none 0 0]) (t := 22) ?hr ?_; (case hd => rfl); (case hg => rfl); (case hr => first | (go_simp; done) | (go_simp; rfl)); intro g4 hg w3 hbox hb; have BK := Aside0.mk hbox; have GE := Aside0.mk (show w.heap.size ≤ g4 by rw [hg]; exact HB2.out.size); have GF := Aside0.mk (show w2.heap.size ≤ g4 by rw [hg]; exact Nat.le_refl _); have HF3 := Aside0.mk (Kd.F_old HF.out hb); have HB3 := Aside0.mk (below_step HB2.out hb); clear hbox hb hg; have k4 : w3.cell? ⟨g4, 0, none⟩ = some (.slice none 0 0) := (blk_cell BK.out 0).trans rfl; have f4 := blk_frozen BK.out 0)
  | (go_at_call 68; obtain ⟨w4, hw4⟩ : ∃ w4, w4 = w3.setCell ⟨g4, 0, none⟩ (.slice AL L.length cL) := ⟨_, rfl⟩; rw [← hw4]; have hb4 : w4.heap[g4]? = some (.cells #[.slice AL L.length cL] 22 (0, 0)) := (by rw [hw4]; exact blk_put BK.out 0 _ rfl); have hB4 : Below w.heap.size w w4 := (by rw [hw4]; exact HB3.out.setCell (p := ⟨g4, 0, none⟩) GE.out _); have hF4 : Kd.F (Kd.slice 3 (Kd.int .i64)) w4 (fun k => k < w4.heap.size) AL L.length L := (by rw [hw4]; exact Kd.F_mono (Kd.F_bound (Kd.F_far (p := ⟨g4, 0, none⟩) HF3.out (fun k hk => by have h1 := hk.2; have h2 := GF.out; show k ≠ g4; omega) _)) (fun k hk => hk.2)); refine (HTY.out w4 g4 AL cL hb4 hF4 HCL.out).mono ?_; rintro e w5 ⟨v, rfl, hR5, hb5⟩; have HR5 := Aside0.mk (Kd.R_lower hR5 hB4.size); have HB5 := Aside0.mk (below_step hB4 hb5); clear hb4 hB4 hF4 hR5 hb5 hw4))
 go_ret2
 exact ⟨_, rfl, HR5.out, HB5.out⟩
end Go.Proofs.Ythbkjaieenochaa.L

namespace Go.Proofs.Ythbkjaieenochaa.L
open Go.RowKit Go.Proofs.Ythbkjaieenochaa Go.Proofs.Ythbkjaieenochaa.P Go.Proofs.YthbkjaieenochaaW.PrintWords Go.Proofs.YthbkjaieenochaaW.PrintLast Go.Proofs.YthbkjaieenochaaW.PrintMore
set_option maxRecDepth 100000
theorem cb_1 : CbOk 1 := by unfold CbOk; decide +kernel
theorem cb_2 : CbOk 2 := by unfold CbOk; decide +kernel
theorem cb_3 : CbOk 3 := by unfold CbOk; decide +kernel
theorem cb_4 : CbOk 4 := by unfold CbOk; decide +kernel
end Go.Proofs.Ythbkjaieenochaa.L

namespace Go.Proofs.Ythbkjaieenochaa.L
open Go.RowKit Go.Proofs.Ythbkjaieenochaa Go.Proofs.Ythbkjaieenochaa.P Go.Proofs.YthbkjaieenochaaW.PrintWords Go.Proofs.YthbkjaieenochaaW.PrintLast Go.Proofs.YthbkjaieenochaaW.PrintMore
set_option maxRecDepth 100000
theorem cb5_0 : rkOkB (paX 5) ((esX 5).take 110) = true := by decide +kernel
theorem cb5_1 : rkOkB (paX 5) (((esX 5).drop 110).take 110) = true := by decide +kernel
end Go.Proofs.Ythbkjaieenochaa.L

namespace Go.Proofs.Ythbkjaieenochaa.L
open Go.RowKit Go.Proofs.Ythbkjaieenochaa Go.Proofs.Ythbkjaieenochaa.P Go.Proofs.YthbkjaieenochaaW.PrintWords Go.Proofs.YthbkjaieenochaaW.PrintLast Go.Proofs.YthbkjaieenochaaW.PrintMore
set_option maxRecDepth 100000
theorem cb5_2 : rkOkB (paX 5) (((esX 5).drop 220).take 110) = true := by decide +kernel
theorem cb5_3 : rkOkB (paX 5) ((esX 5).drop 330) = true := by decide +kernel
end Go.Proofs.Ythbkjaieenochaa.L

namespace Go.Proofs.Ythbkjaieenochaa
open Go.RowKit Go.Proofs.Ythbkjaieenochaa.P Go.Proofs.Ythbkjaieenochaa.L Go.Proofs.YthbkjaieenochaaW.PrintWords Go.Proofs.YthbkjaieenochaaW.PrintLast Go.Proofs.YthbkjaieenochaaW.PrintMore
set_option linter.unusedVariables false
set_option maxRecDepth 100000

theorem es_few : (esX 1).length ≤ 1000 ∧ (esX 2).length ≤ 1000 ∧ (esX 3).length ≤ 1000 ∧ (esX 4).length ≤ 1000 ∧ (esX 5).length ≤ 1000 := by decide +kernel
theorem ta_all {n : Nat} (h0 : 1 ≤ n) (h1 : n ≤ 5) : taE 1000 [] [] n = some (esX n) ∧ (esX n).length ≤ 1000 := by
 have e : n = 1 ∨ n = 2 ∨ n = 3 ∨ n = 4 ∨ n = 5 := by omega
 rcases e with rfl | rfl | rfl | rfl | rfl
 ·exact ⟨ta_1, es_few.1⟩
 ·exact ⟨ta_2, es_few.2.1⟩
 ·exact ⟨ta_3, es_few.2.2.1⟩
 ·exact ⟨ta_4, es_few.2.2.2.1⟩
 ·exact ⟨ta_5, es_few.2.2.2.2⟩
theorem F_zero {α : Type} (d : Kd α) (W : World) (A : Option Addr) : Kd.F d W (fun _ => False) A 0 ([] : List α) := fun W' _ => ⟨rfl, by simp, fun h => absurd h (by simp)⟩
def spec_trAll.f (l0 : List Int) (l1 : List (List Int)) (a2 : Int) : Option (List (List (List Int))) := if l0 = [] ∧ l1 = [] ∧ 1 ≤ a2 ∧ a2 ≤ 5 then some (esX a2.toNat) else none
theorem spec_trAll.calls (A0 : Option Addr) (c0 : Nat) (l0 : List Int) (A1 : Option Addr) (c1 : Nat) (l1 : List (List Int)) (a2 : Int) (r : List (List (List Int))) (w : World) (hr0 : Kd.C (Kd.int .i64) w A0 l0.length l0) (hc0 : l0.length ≤ c0) (hr1 : Kd.C (Kd.slice 3 (Kd.int .i64)) w A1 l1.length l1) (hc1 : l1.length ≤ c1) (h : spec_trAll.f l0 l1 a2 = some r) :
  Calls Try.prog 60 #[.slice A0 l0.length c0, .slice A1 l1.length c1, .int .i64 a2] w fun e w' => ∃ v0_ : Value, e = .returned (v0_) ∧ Kd.N (Kd.slice 28 (Kd.slice 3 (Kd.int .i64))) 22 w' w.heap.size (fun k_ => (w.heap.size ≤ k_)) v0_ r ∧ Below w.heap.size w w' := by
 unfold spec_trAll.f at h
 split at h
 case isFalse => cases h
 rename_i hn
 obtain ⟨rfl, rfl, h1, h5⟩ := hn
 obtain rfl := Option.some.inj h
 obtain ⟨m, rfl⟩ := Int.eq_ofNat_of_zero_le (show 0 ≤ a2 by omega)
 rw [Int.toNat_natCast]
 obtain ⟨k1, k2⟩ := ta_all (n := m) (by omega) (by omega)
 refine (spec_trAll.callsG 1000 [] [] (m : Int) (esX m) A0 c0 A1 c1 w (fun _ => False) k1 (by omega) hr0 hc0 (F_zero _ _ _) hc1).mono ?_
 rintro e w' ⟨v, rfl, hN, hb⟩
 exact ⟨v, rfl, Kd.N_mono hN (fun k hk => hk.elim (fun h => h.elim) id), hb⟩
end Go.Proofs.Ythbkjaieenochaa

namespace Go.Proofs.Ythbkjaieenochaa.P
open Go.RowKit Go.Proofs.YthbkjaieenochaaW.PrintWords Go.Proofs.YthbkjaieenochaaW.PrintLast Go.Proofs.YthbkjaieenochaaW.PrintMore
attribute [local go_sem] max2_int min2_int max_two min_two max_three min_three max_four min_four   -- for this text's walks alone
set_option linter.unusedVariables false
set_option linter.unusedSimpArgs false

def spec_loPlace.l0 : Nat → List Int → List (List Int) → Int → Int → Option (Int)
 | 0, _, _, _, _ => none
 | k + 1, x1, x7, x8, x9 => if x9 < x8 then (if 0 ≤ x9 then (if x9 < (x7.length : Int) then ((spec_l1Same.f k x1 (rd_L1 x7 x9)).bind fun t701 => (if t701 = true then (some x9) else (spec_loPlace.l0 k x1 x7 x8 (wrap64 (x9 + 1))))) else (none)) else (none)) else (some (-1))
def spec_loPlace.f (k : Nat) (l0 : List (List Int)) (l1 : List Int) : Option (Int) := spec_loPlace.l0 k l1 l0 (l0.length : Int) 0
set_option maxHeartbeats 8000000 in
set_option maxRecDepth 100000 in
theorem spec_loPlace.calls (k : Nat) (A0 : Option Addr) (c0 : Nat) (l0 : List (List Int)) (A1 : Option Addr) (c1 : Nat) (l1 : List Int) (r : Int) (w : World) (hr0 : Kd.C (Kd.slice 3 (Kd.int .i64)) w A0 l0.length l0) (hc0 : l0.length ≤ c0) (hr1 : Kd.C (Kd.int .i64) w A1 l1.length l1) (hc1 : l1.length ≤ c1) (h : spec_loPlace.f k l0 l1 = some r) :
  Calls Try.prog 67 #[.slice A0 l0.length c0, .slice A1 l1.length c1] w fun e w' => e = .returned (.int .i64 r) ∧ Drawn0 w w' := by
 have HR0 := Aside0.mk hr0
 have HC0 := Aside0.mk hc0
 clear hr0 hc0
 have HR1 := Aside0.mk hr1
 have HC1 := Aside0.mk hc1
 clear hr1 hc1
 have H : (spec_loPlace.l0 k l1 l0 (l0.length : Int) 0) = some r := h
 clear h
 have H' := Aside0.mk H
 clear H
 go_enter Try.func67, Try.ntmps67
 go_wp2
 go_loopg [9] k (fun kq v9 w' => ∃ (x9_1 : Int), v9 = .int .i64 x9_1 ∧ Aside0 (spec_loPlace.l0 kq l1 l0 (l0.length : Int) x9_1 = some r) ∧ Aside0 (kq ≤ k) ∧ Drawn0 w w')
 case atStart => exact ⟨(0), (by first | rfl | (simp; done) | (simp [*]; done)), H', ⟨Nat.le_refl _⟩, by repeat (first | exact Drawn0.refl _ | apply Drawn0.step)⟩
 case round =>
  clear H'
  try clear c1
  try clear p2
  obtain ⟨x9_1, rfl, HA, HK1, ⟨m1, rfl⟩⟩ := hrel
  cases gk with
  | zero => exact absurd HA.out (by simp [spec_loPlace.l0])
  | succ k1 =>
   have H := HA.out
   clear HA
   simp only [spec_loPlace.l0] at H
   by_cases c3 : x9_1 < (l0.length : Int)
   ·rw [if_pos c3] at H
    have c3b0 : decide (x9_1 < (l0.length : Int)) = true := decide_eq_true c3
    clear c3
    by_cases c4 : 0 ≤ x9_1
    ·rw [if_pos c4] at H
     have c4b0 : decide (0 ≤ x9_1) = true := decide_eq_true c4
     clear c4
     by_cases c5 : x9_1 < (l0.length : Int)
     ·rw [if_pos c5] at H
      have c5b0 : decide (x9_1 < (l0.length : Int)) = true := decide_eq_true c5
      clear c5
      replace H := Option.bind_eq_some_iff.mp H
      obtain ⟨t701, A60, H⟩ := H
      replace H : (if t701 = true then (some x9_1) else (spec_loPlace.l0 k1 l1 l0 (l0.length : Int) (wrap64 (x9_1 + 1)))) = some r := H
      have A6 := Aside0.mk A60
      clear A60
      by_cases c7 : t701 = true
      ·subst c7
       have H1 : (some x9_1) = some r := by rw [if_pos rfl] at H; exact H
       clear H
       have H := H1
       clear H1
       obtain rfl := Option.some.inj H
       have p700 : 0 ≤ (x9_1 : Int) := of_decide_eq_true (by first | (with_reducible assumption) | assumption)
       have q700 : x9_1 < (l0.length : Int) := of_decide_eq_true (by first | (with_reducible assumption) | assumption)
       obtain ⟨ad700, A700_0, c700_0, e700, hx700_0, hl700_0, hi700_0⟩ := at_L1 HR0.out x9_1 p700 q700
       cases e700
       have HR700_0 := Aside0.mk hi700_0
       have HC700_0 := Aside0.mk hl700_0
       clear hi700_0 hl700_0
       replace p700 := eq_true p700
       replace q700 := eq_true q700
       go_wp2_with (first | ((with_reducible refine gate_callee (f := 61) rfl ?_); refine goesL_ (some 16) rfl rfl Try.func61 (by kernel_rfl) rfl #[.slice A1 l1.length c1, .slice A700_0 (rd_L1 l0 x9_1).length c700_0] rfl (by (try simp only [List.map_toArray, List.map_cons, List.map_nil]); first | done | rfl | (simp only [List.length_drop, List.length_take]; rfl)) ?_; (with_reducible refine (spec_l1Same.calls k1 _ _ l1 _ _ (rd_L1 l0 x9_1) true _ ?side1 ?side2 ?side3 ?side4 A6.out).mono ?_); (case side1 => repeat (first | exact HR1.out | (with_reducible refine Kd.C_alloc ?_ _) | (with_reducible refine Kd.C_drewN ?_ _) | (with_reducible refine Kd.C_drew ?_))); (case side2 => exact HC1.out); (case side3 => repeat (first | exact HR700_0.out | (with_reducible refine Kd.C_alloc ?_ _) | (with_reducible refine Kd.C_drewN ?_ _) | (with_reducible refine Kd.C_drew ?_))); (case side4 => exact HC700_0.out); rintro e w' ⟨rfl, ⟨nd, rfl⟩⟩; refine ⟨_, rfl, ?_⟩))
       go_ret
       exact ⟨by first | rfl | (simp; done) | (simp [*]; done), by repeat (first | exact Drawn0.refl _ | apply Drawn0.step)⟩
      ·replace c7 := Bool.eq_false_iff.mpr c7
       subst c7
       have H1 : (spec_loPlace.l0 k1 l1 l0 (l0.length : Int) (wrap64 (x9_1 + 1))) = some r := by rw [if_neg (show ¬ (false = true) by decide)] at H; exact H
       clear H
       have H := H1
       clear H1
       have H' := Aside0.mk H
       clear H
       have p700 : 0 ≤ (x9_1 : Int) := of_decide_eq_true (by first | (with_reducible assumption) | assumption)
       have q700 : x9_1 < (l0.length : Int) := of_decide_eq_true (by first | (with_reducible assumption) | assumption)
       obtain ⟨ad700, A700_0, c700_0, e700, hx700_0, hl700_0, hi700_0⟩ := at_L1 HR0.out x9_1 p700 q700
       cases e700
       have HR700_0 := Aside0.mk hi700_0
       have HC700_0 := Aside0.mk hl700_0
       clear hi700_0 hl700_0
       replace p700 := eq_true p700
       replace q700 := eq_true q700
       go_wp2_with (first | ((with_reducible refine gate_callee (f := 61) rfl ?_); refine goesL_ (some 16) rfl rfl Try.func61 (by kernel_rfl) rfl #[.slice A1 l1.length c1, .slice A700_0 (rd_L1 l0 x9_1).length c700_0] rfl (by (try simp only [List.map_toArray, List.map_cons, List.map_nil]); first | done | rfl | (simp only [List.length_drop, List.length_take]; rfl)) ?_; (with_reducible refine (spec_l1Same.calls k1 _ _ l1 _ _ (rd_L1 l0 x9_1) false _ ?side1 ?side2 ?side3 ?side4 A6.out).mono ?_); (case side1 => repeat (first | exact HR1.out | (with_reducible refine Kd.C_alloc ?_ _) | (with_reducible refine Kd.C_drewN ?_ _) | (with_reducible refine Kd.C_drew ?_))); (case side2 => exact HC1.out); (case side3 => repeat (first | exact HR700_0.out | (with_reducible refine Kd.C_alloc ?_ _) | (with_reducible refine Kd.C_drewN ?_ _) | (with_reducible refine Kd.C_drew ?_))); (case side4 => exact HC700_0.out); rintro e w' ⟨rfl, ⟨nd, rfl⟩⟩; refine ⟨_, rfl, ?_⟩))
       go_roundg k1
       case measure => have := HK1.out; omega
       case rel => exact ⟨(wrap64 (x9_1 + 1)), (by first | rfl | (simp; done) | (simp [*]; done)), H', ⟨by have := HK1.out; omega⟩, by repeat (first | exact Drawn0.refl _ | apply Drawn0.step)⟩
     ·rw [if_neg c5] at H
      exact absurd H (by simp)
    ·rw [if_neg c4] at H
     exact absurd H (by simp)
   ·rw [if_neg c3] at H
    have c3b0 : decide (x9_1 < (l0.length : Int)) = false := decide_eq_false c3
    clear c3
    obtain rfl := Option.some.inj H
    go_wp2
    go_ret
    exact ⟨by first | rfl | (simp; done) | (simp [*]; done), by repeat (first | exact Drawn0.refl _ | apply Drawn0.step)⟩

end Go.Proofs.Ythbkjaieenochaa.P

namespace Go.Proofs.Ythbkjaieenochaa.L
open Go.RowKit Go.Proofs.Ythbkjaieenochaa Go.Proofs.Ythbkjaieenochaa.P Go.Proofs.YthbkjaieenochaaW.PrintWords Go.Proofs.YthbkjaieenochaaW.PrintLast Go.Proofs.YthbkjaieenochaaW.PrintMore
set_option linter.unusedVariables false
set_option linter.unusedSimpArgs false

theorem loPlace_l0 (L : List (List Int)) (p : List Int) (hL : L.length ≤ 1000) (hp : p.length ≤ 1000) : ∀ (q i : Nat), i + q = L.length → Ev (fun k => spec_loPlace.l0 k p L L.length i) (idxFrom (fun x => decide (x = p)) i (L.drop i)) := by
 intro q
 induction q with
 | zero =>
  intro i hi
  refine Ev.step (fun k => by rw [spec_loPlace.l0]) ?_
  rw [List.drop_eq_nil_of_le (by omega), idxFrom]
  exact Ev.ite_neg (by omega) (Ev.now _)
 | succ q ih =>
  intro i hi
  have hlt : i < L.length := by omega
  refine Ev.step (fun k => by rw [spec_loPlace.l0]) ?_
  rw [List.drop_eq_getElem_cons hlt, idxFrom, rd1_at L i hlt]
  refine Ev.ite_pos (by omega) (Ev.ite_pos (by omega) (Ev.ite_pos (by omega) (Ev.bind (same_ev p L[i] hp) ?_)))
  by_cases h : p = L[i]
  ·rw [decide_eq_true h, decide_eq_true h.symm]
   exact Ev.ite_pos rfl (Ev.now _)
  ·rw [decide_eq_false h, decide_eq_false (fun e => h e.symm), wrapS i (by omega)]
   exact Ev.ite_neg (by simp) (ih (i + 1) (by omega))
theorem loPlace_ev (L : List (List Int)) (p : List Int) (hL : L.length ≤ 1000) (hp : p.length ≤ 1000) : Ev (fun k => spec_loPlace.f k L p) (rkOf L p) := by
 have := loPlace_l0 L p hL hp L.length 0 (by omega)
 rw [List.drop_zero] at this
 exact this
theorem patM_few {m : List (List Int)} (hs : isSign m = true) : (patM m).length ≤ 1000 := by
 obtain ⟨h1, h2, _⟩ := isSign_facts hs
 unfold patM
 rw [List.length_map, (ends_all h1 h2).len]
 omega
theorem in_eqC (a b c : Int) : spec_l1In.f a b c = some (inB a b c) := by
 unfold spec_l1In.f inB
 by_cases h : a ≥ b
 ·rw [if_pos h, decide_eq_true (show b ≤ a from h), Bool.true_and]
 ·rw [if_neg h, decide_eq_false (show ¬ b ≤ a from h), Bool.false_and]
/-- The pattern of a table that is read, as the reference makes it. -/
theorem spec_pat_calls {T : List (List Int)} (hs : isSign T = true) : ∃ (k1 k2 : Nat), (∀ (A : Option Addr) (c : Nat) (W : World), Kd.C (Kd.slice 3 (Kd.int .i64)) W A T.length T → T.length ≤ c → Calls Try.prog 42 #[.slice A T.length c] W fun e w' => ∃ (A1 : Option Addr) (c1 : Nat) (A2 : Option Addr) (c2 : Nat), e = .returned (.agg #[.int .i64 T.length, .slice A1 (acM T).length c1, .slice A2 (dnM T).length c2]) ∧ (acM T).length ≤ c1 ∧ (dnM T).length ≤ c2 ∧ Kd.C (Kd.slice 3 (Kd.int .i64)) w' A1 (acM T).length (acM T) ∧ Kd.C (Kd.slice 3 (Kd.int .i64)) w' A2 (dnM T).length (dnM T) ∧ Below W.heap.size W w') ∧
  (∀ (A1 : Option Addr) (c1 : Nat) (A2 : Option Addr) (c2 : Nat) (W : World), Kd.C (Kd.slice 3 (Kd.int .i64)) W A1 (acM T).length (acM T) → (acM T).length ≤ c1 → Kd.C (Kd.slice 3 (Kd.int .i64)) W A2 (dnM T).length (dnM T) → (dnM T).length ≤ c2 → Calls Try.prog 50 #[.agg #[.int .i64 T.length, .slice A1 (acM T).length c1, .slice A2 (dnM T).length c2]] W fun e w' => ∃ (Ap : Option Addr) (cp : Nat), e = .returned (.slice Ap (patM T).length cp) ∧ (patM T).length ≤ cp ∧ Kd.C (Kd.int .i64) w' Ap (patM T).length (patM T) ∧ Below W.heap.size W w') := by
 obtain ⟨k1, hk1⟩ := (loOf_ev T hs).rounds
 obtain ⟨k2, hk2⟩ := (loPattern_ev hs).rounds
 refine ⟨k1, k2, fun A c W hC hc => (spec_loOf.calls k1 A c T _ _ _ W hC hc hk1).mono ?_, fun A1 c1 A2 c2 W h1 g1 h2 g2 => (spec_loPattern.calls k2 _ A1 c1 _ A2 c2 _ _ W h1 g1 h2 g2 hk2).mono ?_⟩
 ·rintro e w' ⟨v1, v2, rfl, s1, s2, hb⟩
  obtain ⟨A1, c1, rfl⟩ := Kd.S_slice s1
  obtain ⟨A2, c2, rfl⟩ := Kd.S_slice s2
  exact ⟨A1, c1, A2, c2, rfl, (Kd.S_reads' s1).2.1, (Kd.S_reads' s2).2.1, (Kd.S_reads' s1).2.2, (Kd.S_reads' s2).2.2, hb⟩
 ·rintro e w' ⟨v, rfl, hR, hb⟩
  obtain ⟨Ap, cp, rfl⟩ := Kd.R_slice hR
  exact ⟨Ap, cp, rfl, (Kd.R_reads' hR).2.1, (Kd.R_reads' hR).2.2, hb⟩
set_option maxHeartbeats 4000000 in
set_option maxRecDepth 100000 in
theorem spec_CountByPattern.callsG (n : Nat) (h0 : 1 ≤ n) (h5 : n ≤ 5) (hok : CbOk n) (w : World) :
  Calls Try.prog 34 #[.int .i64 n] w (RetTR w (cbS (paX n) (esX n) (esX n).length) true) := by
 have HIN := Aside0.mk (fun W => spec_l1In.calls (n : Int) 1 5 true W (by rw [in_eqC]; congr 1; exact (inB_iff _ _ _).2 ⟨by omega, by omega⟩))
 obtain ⟨_, _, hsp, hpl, hpa, _⟩ := pa_all (n := n) h0 (by omega)
 have HLA := Aside0.mk (fun W => spec_loAll.calls 2000 (n : Int) 0 _ W hsp)
 have HTA := Aside0.mk (fun W => spec_trAll.calls none 0 [] none 0 [] (n : Int) (esX n) W (Kd.F_now (Kd.F_nil (Kd.int .i64) W (fun _ => True))) (Nat.le_refl _) (Kd.F_now (Kd.F_nil (Kd.slice 3 (Kd.int .i64)) W (fun _ => True))) (Nat.le_refl _) (by unfold spec_trAll.f; rw [if_pos ⟨rfl, rfl, by omega, by omega⟩]; rfl))
 obtain ⟨All, hAll⟩ : ∃ All, All = esX n := ⟨_, rfl⟩
 obtain ⟨L, hL⟩ : ∃ L, L = paX n := ⟨_, rfl⟩
 obtain ⟨hrk, hAl⟩ := hok
 rw [← hAll] at HTA hrk hAl ⊢
 rw [← hL] at HLA hrk hpl ⊢
 have HRK := Aside0.mk hrk
 have mk1 : ∀ W : World, Sem.run Try.prog (Instr.makeSlice 28 (.int .i64 L.length) (.int .i64 L.length)) W = Result.ok (Value.slice (some ⟨W.heap.size, 0, none⟩) L.length L.length) (W.alloc (.cells (madeCells #[.int .i64 0] L.length) 3)) := fun W => run_make_row' (P := Try.prog) 28 3 (.int .i64 0) 8 Try.underlying28 info_ints rfl .i64 .i64 L.length (by omega) (by omega) W
 have hmz : (L.length : Int) ≤ 200 := by omega
 have HPL := Aside0.mk hpl
 have HAL := Aside0.mk hAl
 clear hsp hpa hAll hL hrk hpl hAl
 go_enter Try.func34, Try.ntmps34
 go_wp2_with (first
  | (go_at_call 48; refine (HIN.out _).mono ?_; rintro e w1 ⟨rfl, hd⟩; have HB1 := Aside0.mk hd.below; clear hd)
  | (go_at_call 37; refine (HLA.out _).mono ?_; rintro e w2 ⟨v, rfl, hS, hb⟩; obtain ⟨AL, cL, rfl⟩ := Kd.S_slice hS; have HF := Aside0.mk (Kd.F_mono (ok' := fun k => k < w2.heap.size) (Kd.F_bound (Kd.S_F hS)) (fun k hk => hk.2)); have HCL := Aside0.mk (Kd.S_reads' hS).2.1; have HB2 := Aside0.mk (below_step HB1.out hb); clear hS hb)
  | (go_at_call 60; obtain ⟨w3, hw3⟩ : ∃ w3, w3 = w2.alloc (.cells (madeCells #[.int .i64 0] L.length) 3) := ⟨_, rfl⟩; rw [← hw3]; have hst : intBlk w3 w2.heap.size (List.replicate L.length 0) := (by rw [hw3]; unfold intBlk; have := blk_new w2 (.cells (madeCells #[.int .i64 0] L.length) 3); rw [madeInts] at this ⊢; exact this); have HO3 := Aside0.mk (show Kd.R (Kd.int .i64) 3 w3 w.heap.size (fun _ => True) (.slice (some ⟨w2.heap.size, 0, none⟩) L.length L.length) (cbS L All 0) by have h := intBlk_R (ok := fun _ => True) (base := w.heap.size) hst HB2.out.size trivial (by rw [List.length_replicate]; omega); rw [List.length_replicate] at h; exact h); have hb3 : Below w2.heap.size w2 w3 := (by rw [hw3]; exact below_alloc (Below.refl _ _) _); have HF3 := Aside0.mk (Kd.F_below HF.out hb3); have HB3 := Aside0.mk (below_step HB2.out hb3); have SZ3 := Aside0.mk (show w3.heap.size = w2.heap.size + 1 by rw [hw3]; simp); refine (HTA.out w3).mono ?_; clear hw3 hst hb3; rintro e w4 ⟨v, rfl, hN, hb⟩; obtain ⟨AT, cT, rfl⟩ := Kd.N_slice hN; have HT4 := Aside0.mk (Kd.F_mono (ok' := fun k => w2.heap.size < k) (Kd.N_F hN) (fun k hk => by have := SZ3.out; omega)); have HF4 := Aside0.mk (Kd.F_below HF3.out hb); have HO4 := Aside0.mk (Kd.R_below HO3.out hb); have HB4 := Aside0.mk (below_step HB3.out hb); clear hN hb))
 go_loopg [19] All.length (fun gg s19 wr => ∃ i : Nat, i ≤ All.length ∧ All.length - i ≤ gg ∧ s19 = .int .i64 i ∧ Aside0 (Kd.F (Kd.slice 3 (Kd.int .i64)) wr (fun k => k < w2.heap.size) AL L.length L) ∧ Aside0 (Kd.F (Kd.slice 28 (Kd.slice 3 (Kd.int .i64))) wr (fun k => w2.heap.size < k) AT All.length All) ∧ Aside0 (Kd.R (Kd.int .i64) 3 wr w.heap.size (fun _ => True) (.slice (some ⟨w2.heap.size, 0, none⟩) L.length L.length) (cbS L All i)) ∧ Aside0 (Below w.heap.size w wr))
 case atStart => exact ⟨0, Nat.zero_le _, Nat.le_refl _, rfl, HF4, HT4, HO4, HB4⟩
 case round =>
  clear HF4 HT4 HO4 HB4
  obtain ⟨i, hi, hg, rfl, HFr, HTr, HOr, HBr⟩ := hrel
  have hA1 := HAL.out
  by_cases hlt : i < All.length
  ·have hz : (i : Int) < (All.length : Int) := by omega
   obtain ⟨T, hTe⟩ : ∃ T, T = All.getD i [] := ⟨_, rfl⟩
   have hmem : T ∈ All := by rw [hTe, List.getD_eq_getElem?_getD, List.getElem?_eq_getElem hlt]; exact List.getElem_mem hlt
   obtain ⟨hs, hp0, hp1⟩ := rk_at HRK.out hmem
   obtain ⟨ad, cc, hA, hcl1, hFK, hcell, _⟩ := Kd.F_get HTr.out ([] : List (List Int)) (i : Int) (by omega) (by omega)
   subst hA
   obtain ⟨At, ct, rfl, hct, hFx⟩ := Kd.FK_slice_open hFK
   have hx := hcell 0 _ rfl
   rw [Int.toNat_natCast, show (Kd.slice 28 (Kd.slice 3 (Kd.int .i64))).sz = 1 from rfl, Nat.mul_one, Nat.add_zero] at hx
   rw [Int.toNat_natCast, ← hTe] at hct hFx
   rw [← hTe] at hx
   obtain ⟨k1, k2, c1, c2⟩ := spec_pat_calls hs
   obtain ⟨k3, hk3⟩ := (loPlace_ev L (patM T) (by have := HPL.out; omega) (patM_few hs)).rounds
   have HC1 := Aside0.mk (c1 At ct wr (Kd.F_now hFx) hct)
   have HC2 := Aside0.mk c2
   have HC3 := Aside0.mk (fun W Ap cp (hb : Below wr.heap.size wr W) h1 g1 => spec_loPlace.calls k3 AL cL L Ap cp (patM T) _ W (Kd.F_now (Kd.F_below HFr.out hb)) HCL.out h1 g1 hk3)
   have HSTEP := Aside0.mk (show cbS L All (i + 1) = (cbS L All i).set (rkOf L (patM T)).toNat (wrap64 (rd (cbS L All i) (rkOf L (patM T)) + 1)) by rw [cbS, ← hTe])
   obtain ⟨p, hp⟩ : ∃ p, p = rkOf L (patM T) := ⟨_, rfl⟩
   rw [← hp] at HC3 HSTEP hp0 hp1
   have hget := Kd.R_celln (0 : Int) HOr.out p hp0 hp1
   obtain ⟨cu, hcu⟩ : ∃ cu, cu = rd (cbS L All i) p := ⟨_, rfl⟩
   have hget1 : wr.cell? ⟨w2.heap.size, p.toNat, none⟩ = some (.int .i64 cu) := by rw [hcu]; exact hget.1
   have HPUT := Aside0.mk (fun W (hb : Below wr.heap.size wr W) => show Kd.R (Kd.int .i64) 3 (W.setCell ⟨w2.heap.size, p.toNat, none⟩ (.int .i64 (wrap64 (cu + 1)))) w.heap.size (fun _ => True) (.slice (some ⟨w2.heap.size, 0, none⟩) L.length L.length) (cbS L All (i + 1)) by
    rw [HSTEP.out, ← hcu]; exact Kd.R_putn (Kd.R_below HOr.out hb) p (wrap64 (cu + 1)))
   have HGET := Aside0.mk hget1
   have HFRZ := Aside0.mk (fun W (hb : Below wr.heap.size wr W) => (Kd.R_celln (0 : Int) (Kd.R_below HOr.out hb) p hp0 hp1).2)
   obtain ⟨P, hP⟩ : ∃ P, P = patM T := ⟨_, rfl⟩
   rw [← hP] at HC2 HC3
   clear hTe hmem hs hFK hcell hcl1 hFx c1 c2 hk3 hp hget hget1 hcu hP
   go_wp2_with (first
    | (go_at_call 42; refine HC1.out.mono ?_; rintro e w5 ⟨A1, e1, A2, e2, rfl, g1, g2, h1, h2, hb⟩; have G1 := Aside0.mk g1; have G2 := Aside0.mk g2; have H1 := Aside0.mk h1; have H2 := Aside0.mk h2; have HB5 := Aside0.mk hb; clear g1 g2 h1 h2 hb)
    | (go_at_call 50; refine (HC2.out _ _ _ _ w5 H1.out G1.out H2.out G2.out).mono ?_; rintro e w6 ⟨Ap, cp, rfl, g1, h1, hb⟩; have G3 := Aside0.mk g1; have H3 := Aside0.mk h1; have HB6 := Aside0.mk (below_step HB5.out hb); clear g1 h1 hb)
    | (go_at_call 67; refine (HC3.out w6 Ap cp HB6.out H3.out G3.out).mono ?_; rintro e w7 ⟨rfl, hd⟩; have HB7 := Aside0.mk (below_step HB6.out hd.below); clear hd; have hy := pw_cell_below HB7.out HGET.out; have hf := HFRZ.out w7 HB7.out))
   go_roundg (All.length - (i + 1))
   case measure => omega
   case rel =>
    refine ⟨i + 1, by omega, by omega, by go_num, ⟨Kd.F_far (p := ⟨w2.heap.size, p.toNat, none⟩) (Kd.F_below HFr.out HB7.out) (fun k hk => by show k ≠ w2.heap.size; omega) _⟩, ⟨Kd.F_far (p := ⟨w2.heap.size, p.toNat, none⟩) (Kd.F_below HTr.out HB7.out) (fun k hk => by show k ≠ w2.heap.size; omega) _⟩, ⟨HPUT.out w7 HB7.out⟩, ⟨Below.setCell (p := ⟨w2.heap.size, p.toNat, none⟩) (below_step HBr.out HB7.out) HB2.out.size _⟩⟩
  ·have hz : ¬ (i : Int) < (All.length : Int) := by omega
   have hie : i = All.length := by omega
   subst hie
   go_wp2
   go_ret2
   exact ⟨_, rfl, HOr.out, HBr.out⟩
end Go.Proofs.Ythbkjaieenochaa.L

namespace Go.Proofs.Ythbkjaieenochaa.Law
open Go.RowKit Go.Proofs.Ythbkjaieenochaa Go.Proofs.Ythbkjaieenochaa.P Go.Proofs.Ythbkjaieenochaa.L Go.Proofs.YthbkjaieenochaaW.PrintWords Go.Proofs.YthbkjaieenochaaW.PrintLast Go.Proofs.YthbkjaieenochaaW.PrintMore
set_option linter.unusedVariables false
set_option linter.unusedSimpArgs false

theorem rkOkB_app (L : List (List Int)) (X Y : List (List (List Int))) : rkOkB L (X ++ Y) = (rkOkB L X && rkOkB L Y) := by unfold rkOkB; rw [List.all_append]
theorem cb_5 : CbOk 5 := by
 refine ⟨?_, es_few.2.2.2.2⟩
 have e : esX 5 = (esX 5).take 110 ++ (((esX 5).drop 110).take 110 ++ (((esX 5).drop 220).take 110 ++ (esX 5).drop 330)) := by
  have h3 : ((esX 5).drop 220).take 110 ++ (esX 5).drop 330 = (esX 5).drop 220 := by
   have := List.take_append_drop 110 ((esX 5).drop 220)
   rwa [List.drop_drop] at this
  have h2 : ((esX 5).drop 110).take 110 ++ (esX 5).drop 220 = (esX 5).drop 110 := by
   have := List.take_append_drop 110 ((esX 5).drop 110)
   rwa [List.drop_drop] at this
  rw [h3, h2, List.take_append_drop]
 rw [e, rkOkB_app, rkOkB_app, rkOkB_app, cb5_0, cb5_1, cb5_2, cb5_3]
 rfl
theorem cb_all {n : Nat} (h0 : 1 ≤ n) (h1 : n ≤ 5) : CbOk n := by
 have e : n = 1 ∨ n = 2 ∨ n = 3 ∨ n = 4 ∨ n = 5 := by omega
 rcases e with rfl | rfl | rfl | rfl | rfl
 ·exact cb_1
 ·exact cb_2
 ·exact cb_3
 ·exact cb_4
 ·exact cb_5
theorem each_all5 {n : Nat} (h0 : 1 ≤ n) (h1 : n ≤ 5) : EachSigns n (esX n) := by
 by_cases h : n ≤ 4
 ·exact eachSigns_all h0 h
 ·obtain rfl : n = 5 := by omega
  exact eachSigns_5
def cbR (n : Int) : List Int := if inB n 1 5 = true then cbS (paX n.toNat) (esX n.toNat) (esX n.toNat).length else []
theorem spec_cbp_calls (n : Int) (w : World) : Calls Try.prog 34 #[.int .i64 n] w (RetTR w (cbR n) (inB n 1 5)) := by
 unfold cbR
 cases hi : inB n 1 5 with
 | false =>
  have hw := fun W => spec_l1In.calls n 1 5 false W (by rw [in_eqC, hi])
  rw [if_neg (by simp)]
  clear hi
  go_enter Try.func34, Try.ntmps34
  go_wp2_with (go_at_call 48; refine (hw _).mono ?_; rintro e w1 ⟨rfl, hd⟩; have hb := hd.below; clear hd)
  go_ret2
  exact ⟨_, rfl, Kd.R_nil _ _ _ _ _, hb⟩
 | true =>
  obtain ⟨h0, h1⟩ := (inB_iff n 1 5).1 hi
  obtain ⟨m, rfl⟩ := Int.eq_ofNat_of_zero_le (show 0 ≤ n by omega)
  have hm0 : 1 ≤ m := by omega
  have hm5 : m ≤ 5 := by omega
  rw [if_pos rfl, Int.toNat_natCast]
  exact spec_CountByPattern.callsG m hm0 hm5 (cb_all hm0 hm5) w
theorem impl_cbp_calls (n : Int) (w : World) : Calls Try.prog 35 #[.int .i64 n] w (RetTR w (cbR n) (inB n 1 5)) := by
 unfold cbR
 cases hi : inB n 1 5 with
 | false =>
  have hw := fun W => impl_within.calls n 1 5 false W (by unfold impl_within.f; rw [hi])
  rw [if_neg (by simp)]
  clear hi
  go_enter Try.func35, Try.ntmps35
  go_wp2_with (go_at_call 49; refine (hw _).mono ?_; rintro e w1 ⟨rfl, hd⟩; have hb := hd.below; clear hd)
  go_ret2
  exact ⟨_, rfl, Kd.R_nil _ _ _ _ _, hb⟩
 | true =>
  obtain ⟨h0, h1⟩ := (inB_iff n 1 5).1 hi
  obtain ⟨m, rfl⟩ := Int.eq_ofNat_of_zero_le (show 0 ≤ n by omega)
  have hm0 : 1 ≤ m := by omega
  have hm5 : m ≤ 5 := by omega
  rw [if_pos rfl, Int.toNat_natCast]
  exact impl_CountByPattern.callsG m hm0 hm5 (cb_all hm0 hm5) (each_all5 hm0 hm5) w
theorem FnExactCountByPattern (n : Int) (_hx : (Lit.int .i64 n).wf = true) {W0 : World} (W : World) (_hW : W = W0) :
  Calls Try.prog 9 #[.int .i64 n] W fun e w' => e = .returned (.bool true) ∧ Below W.heap.size W w' := by
 refine lawCountByPattern n _ _ W ?_ (fun W' => (spec_cbp_calls n W').mono fun e w' h => RetC.of_R h) (fun W' => impl_cbp_calls n W')
 unfold cbR
 cases hi : inB n 1 5 with
 | false => rw [if_neg (by simp)]; simp
 | true =>
  obtain ⟨h0, h1⟩ := (inB_iff n 1 5).1 hi
  obtain ⟨_, _, _, hpl, _, _⟩ := pa_all (n := n.toNat) (by omega) (by omega)
  rw [if_pos rfl, cbS_length]
  omega
end Go.Proofs.Ythbkjaieenochaa.Law
