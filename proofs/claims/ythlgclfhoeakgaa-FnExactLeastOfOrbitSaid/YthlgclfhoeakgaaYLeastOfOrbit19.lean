/- The program's LeastOfOrbit answers as the reference's LeastOfOrbit, for every table; the table stays as it was, and what comes back is the call's own (the walk of the law FnExactLeastOfOrbit; no condition). -/
import Derived.Test.YthlgclfhoeakgaaYLeastOfOrbit18
namespace Go.Proofs.Ythlgclfhoeakgaa.L
open Go.RowKit Go.Proofs.Ythlgclfhoeakgaa Go.Proofs.Ythlgclfhoeakgaa.P Go.Proofs.YthlgclfhoeakgaaW.PrintWords Go.Proofs.YthlgclfhoeakgaaW.PrintLast Go.Proofs.YthlgclfhoeakgaaW.PrintMore
set_option linter.unusedVariables false
set_option linter.unusedSimpArgs false

theorem leastF_at (L : List (List (List Int))) (b : List (List Int)) (i : Nat) (h : i < L.length) : leastF b (L.take (i + 1)) = if cmpT L[i] (leastF b (L.take i)) < 0 then L[i] else leastF b (L.take i) := by
 unfold leastF
 rw [List.take_succ_eq_append_getElem h, List.foldl_append, List.foldl_cons, List.foldl_nil]
theorem leastF_1 (L : List (List (List Int))) (h : 0 < L.length) : leastF L[0] (L.take 1) = L[0] := by
 rw [leastF_at L L[0] 0 h]
 unfold leastF
 rw [List.take_zero, List.foldl_nil]
 split <;> rfl
/-- One of the tables comes back. -/
def MinPost (w : World) (ad : Addr) (L : List (List (List Int))) (e : Ending) (w' : World) : Prop := ∃ (i : Nat) (u : Value), i < L.length ∧ e = .returned u ∧ w.cell? (ad.add i) = some u ∧ leastT L = L.getD i [] ∧ Below w.heap.size w w'
set_option maxHeartbeats 2000000 in
theorem slices_MinFunc_tabs.calls (g : Nat) (ad : Addr) (c0 : Nat) (L : List (List (List Int))) (w : World)
  (eg : ∀ args w, (callFunc g args).run Try.prog w = .ok (.enter g args) w)
  (hp : ∀ (x y : List (List Int)) (A : Option Addr) (c : Nat) (A' : Option Addr) (c' : Nat) (W : World), Kd.C (Kd.slice 3 (Kd.int .i64)) W A x.length x → Kd.C (Kd.slice 3 (Kd.int .i64)) W A' y.length y → Gives Try.prog g #[.slice A x.length c, .slice A' y.length c'] W (.int .i64 (cmpT x y)))
  (hr0 : Kd.C (Kd.slice 34 (Kd.slice 3 (Kd.int .i64))) w (some ad) L.length L) (hc0 : L.length ≤ c0) (h0 : 0 < L.length) :
  Calls Try.prog 28 #[.slice (some ad) L.length c0, .func (.func g) #[] #[]] w (MinPost w ad L) := by
 have hm := hr0.2.1
 have hm1 : L.length ≤ 9223372036854775807 := hm
 have HR0 := Aside0.mk hr0
 have HP := Aside0.mk hp
 have hL1 : ¬ (L.length : Int) < 1 := by omega
 obtain ⟨ad', A1, c1, e0, hx, hc1, hrow⟩ := at_L2 hr0 0 (by omega) (by omega)
 cases e0
 have hrd : rd_L2 L 0 = L[0] := rd2_at L 0 h0
 rw [hrd] at hx hrow
 replace hx : w.cell? ad = some (.slice A1 (L[0]).length c1) := by rw [show Int.toNat 0 = 0 from rfl, addr_zero] at hx; exact hx
 have HX0 := Aside0.mk (show w.cell? (ad.add 0) = some (.slice A1 (L[0]).length c1) by rw [addr_zero]; exact hx)
 have HROW := Aside0.mk hrow
 have HB := Aside0.mk (Below.refl w.heap.size w)
 obtain ⟨b0, hb0⟩ : ∃ b, b = L[0] := ⟨_, rfl⟩
 rw [← hb0] at hx HX0 HROW
 have HI := Aside0.mk (show leastF L[0] (L.take 1) = b0 by rw [leastF_1 L h0, hb0])
 have HAT := Aside0.mk (show L.getD 0 [] = b0 by rw [getD_at L [] 0 h0, hb0])
 clear hr0 hc0 hp hrow hrd hb0 hc1
 go_enter Try.func28, Try.ntmps28
 go_wp2
 go_loopg [5, 6] L.length (fun gg s5 s6 wr => ∃ (kk i : Nat) (b : List (List Int)) (Ab : Option Addr) (cb : Nat), 1 ≤ kk ∧ kk ≤ L.length ∧ L.length - kk ≤ gg ∧ i < L.length ∧ s6 = .int .i64 kk ∧ s5 = .slice Ab b.length cb ∧ Aside0 (w.cell? (ad.add i) = some (.slice Ab b.length cb)) ∧ Aside0 (L.getD i [] = b) ∧ Aside0 (leastF L[0] (L.take kk) = b) ∧ Aside0 (Kd.C (Kd.slice 3 (Kd.int .i64)) w Ab b.length b) ∧ Aside0 (Below w.heap.size w wr))
 case atStart => exact ⟨1, 0, b0, A1, c1, by omega, by omega, by omega, h0, by go_num, rfl, HX0, HAT, HI, HROW, HB⟩
 case round =>
  clear HB HX0 HAT HI HROW hx
  obtain ⟨kk, i, b, Ab, cb, hk1, hkk, hg, hi, rfl, rfl, HX0, HAT, HI, HROW, HB⟩ := hrel
  by_cases hlt : kk < L.length
  ·have hltz : (kk : Int) < (L.length : Int) := by omega
   obtain ⟨ad', A2, c2, e0, hx, hc2, hrow⟩ := at_L2 HR0.out (kk : Int) (by omega) (by omega)
   cases e0
   have HX2 := Aside0.mk hx
   replace hx := pw_cell_below HB.out hx
   have hrd : rd_L2 L (kk : Int) = L[kk] := rd2_at L kk hlt
   rw [hrd] at hx hrow HX2
   rw [Int.toNat_natCast] at hx HX2
   have hst := leastF_at L L[0] kk hlt
   rw [HI.out] at hst
   have hgt := getD_at L [] kk hlt
   have hcall := HP.out L[kk] b A2 c2 Ab cb
   clear hrd
   generalize hy : L[kk] = y at hx hcall hst hrow HX2 hgt
   have HROW2 := Aside0.mk hrow
   have hcl := fun W (hb : Below w.heap.size w W) => hcall W (Kd.C_below HROW2.out hb) (Kd.C_below HROW.out hb)
   have HST := Aside0.mk hst
   have HGT := Aside0.mk hgt
   have hcl2 := hcl _ HB.out
   clear hy hrow hc2 hcall hst hgt hcl
   by_cases hn : cmpT y b < 0
   ·have hnd : decide (cmpT y b < 0) = true := decide_eq_true hn
    have HI2 := Aside0.mk (show leastF L[0] (L.take (kk + 1)) = y by rw [HST.out, if_pos hn])
    have hx9 := fun W (hb : Below w.heap.size w W) => pw_cell_below hb HX2.out
    generalize cmpT y b = cc at hcl2 hnd
    clear HST hn
    go_wp2_with (go_at_fn g; refine (hcl2).mono ?_; rintro e w' ⟨rfl, hb⟩; have HB2 := Aside0.mk (below_step HB.out hb); have hx9' := hx9 _ HB2.out; clear hb)
    go_roundg (L.length - (kk + 1))
    case measure => omega
    case rel => exact ⟨kk + 1, kk, y, A2, c2, by omega, by omega, by omega, hlt, by go_num, rfl, HX2, HGT, HI2, HROW2, HB2⟩
   ·have hnd : decide (cmpT y b < 0) = false := decide_eq_false hn
    have HI2 := Aside0.mk (show leastF L[0] (L.take (kk + 1)) = b by rw [HST.out, if_neg hn])
    generalize cmpT y b = cc at hcl2 hnd
    clear HST hn
    go_wp2_with (go_at_fn g; refine (hcl2).mono ?_; rintro e w' ⟨rfl, hb⟩; have HB2 := Aside0.mk (below_step HB.out hb); clear hb)
    go_roundg (L.length - (kk + 1))
    case measure => omega
    case rel => exact ⟨kk + 1, i, b, Ab, cb, by omega, by omega, by omega, hi, by go_num, rfl, HX0, HAT, HI2, HROW, HB2⟩
  ·have hz : ¬ (kk : Int) < (L.length : Int) := by omega
   have HE := Aside0.mk (show leastT L = b by unfold leastT; rw [getD_at L [] 0 h0, ← HI.out, List.take_of_length_le (by omega)])
   go_wp2
   go_ret
   exact ⟨i, _, hi, rfl, HX0.out, by rw [HE.out, HAT.out], HB.out⟩
/-- The least table of the orbit, of both sides. -/
def leastR (l : List (List Int)) (r : List (List (List Int)) × Bool) : List (List Int) := if r.2 = true then leastT r.1 else []
set_option maxHeartbeats 2000000 in
theorem impl_LeastOfOrbit.callsS (k : Nat) (A0 : Option Addr) (c0 : Nat) (l0 : List (List Int)) (r1 : List (List (List Int))) (r2 : Bool) (w : World) (hr0 : Kd.C (Kd.slice 3 (Kd.int .i64)) w A0 l0.length l0) (hc0 : l0.length ≤ c0) (h : gyoP.f k l0 = some (r1, r2)) (h0 : r2 = true → 0 < r1.length) :
  Calls Try.prog 10 #[.slice A0 l0.length c0] w (RetTT w (leastR l0 (r1, r2)) r2) := by
 have HG := Aside0.mk (impl_GyrationOrbit.callsS k A0 c0 l0 r1 r2 w hr0 hc0 h)
 have eg : ∀ args w, (callFunc 29 args).run Try.prog w = .ok (.enter 29 args) w := enters_of Try.func29 (by kernel_rfl) rfl
 obtain ⟨R, hR⟩ : ∃ R, R = leastR l0 (r1, r2) := ⟨_, rfl⟩
 rw [← hR]
 clear hr0 hc0 h
 cases r2 with
 | false =>
  have HE := Aside0.mk (show R = [] by rw [hR]; rfl)
  clear hR
  go_enter Try.func10, Try.ntmps10
  go_wp2_with (go_at_call 27; refine HG.out.mono ?_; rintro e w1 ⟨v, rfl, hS, hb⟩; have HB := Aside0.mk hb; clear hS hb)
  go_ret2
  exact ⟨_, rfl, by rw [HE.out]; exact Kd.S_nil _ _ _ _ _, HB.out⟩
 | true =>
  have HE := Aside0.mk (show R = leastT r1 by rw [hR]; rfl)
  have h1 := h0 rfl
  clear hR h0
  go_enter Try.func10, Try.ntmps10
  go_wp2_with (first
   | (go_at_call 27; refine HG.out.mono ?_; rintro e w1 ⟨v, rfl, hS, hb⟩; obtain ⟨g, n, c, rfl, hn⟩ : ∃ g n c, v = .slice (some g) n c ∧ n = r1.length := (by obtain ⟨A, n, c, rfl⟩ := slice3 hS; obtain ⟨q1, _, q3⟩ := Kd.S_reads' hS; obtain ⟨ad, he, _⟩ := q3.2.2 h1; exact ⟨ad, n, c, by rw [he], q1⟩); subst hn; have HS := Aside0.mk hS; have HB := Aside0.mk hb; clear hS hb)
   | (go_at_call 28; refine (slices_MinFunc_tabs.calls 29 g c r1 w1 eg (fun x y A c A' c' W hx hy => impl_compareTables.calls' A c x A' c' y W hx hy) (tab_C (Kd.S_reads' HS.out).2.2) (Kd.S_reads' HS.out).2.1 h1).mono ?_; rintro e w2 ⟨i, u, hi, rfl, hu, hL, hb⟩; have HI := Aside0.mk (And.intro hi (And.intro hu hL)); have HB2 := Aside0.mk hb; clear hi hu hL hb))
  obtain ⟨hi, hu, hL⟩ := HI.out
  obtain ⟨cs, hcl, hM, hcc⟩ := Kd.S_get HS.out ([] : List (List Int)) (i : Int) (by omega) (by omega)
  obtain ⟨u', rfl, hSu⟩ := hM
  have hx := hcc 0 _ rfl
  rw [show tabK.sz = 1 from rfl, Nat.mul_one, Nat.add_zero, Int.toNat_natCast] at hx
  obtain rfl := Option.some.inj (hx.symm.trans hu)
  rw [Int.toNat_natCast, ← hL, ← HE.out] at hSu
  have HSU := Aside0.mk (Kd.S_mono (ok' := fun _ => True) (Kd.S_below hSu HB2.out) (fun _ _ => trivial))
  clear hx hu hcc hSu hL hi
  go_wp2
  go_ret2
  exact ⟨_, rfl, HSU.out, below_step HB.out HB2.out⟩
end Go.Proofs.Ythlgclfhoeakgaa.L

namespace Go.Proofs.Ythlgclfhoeakgaa.P
open Go.RowKit Go.Proofs.YthlgclfhoeakgaaW.PrintWords Go.Proofs.YthlgclfhoeakgaaW.PrintLast Go.Proofs.YthlgclfhoeakgaaW.PrintMore
attribute [local go_sem] max2_int min2_int max_two min_two max_three min_three max_four min_four   -- for this text's walks alone
set_option linter.unusedVariables false
set_option linter.unusedSimpArgs false

def spec_LeastOfOrbit.f (k : Nat) (l0 : List (List Int)) : Option ((List (List Int)) × Bool) := (spec_GyrationOrbit.f k l0).bind fun bt253 => (if bt253.2 = true then ((spec_gyLeast.f k bt253.1).bind fun t257 => (some (t257, true))) else (some (([] : List (List Int)), false)))
set_option maxHeartbeats 8000000 in
set_option maxRecDepth 100000 in
theorem spec_LeastOfOrbit.calls (k : Nat) (A0 : Option Addr) (c0 : Nat) (l0 : List (List Int)) (r1 : List (List Int)) (r2 : Bool) (w : World) (hr0 : Kd.C (Kd.slice 3 (Kd.int .i64)) w A0 l0.length l0) (hc0 : l0.length ≤ c0) (h : spec_LeastOfOrbit.f k l0 = some (r1, r2)) :
  Calls Try.prog 8 #[.slice A0 l0.length c0] w fun e w' => ∃ v0_ : Value, e = .returned (.tuple #[v0_, .bool r2]) ∧ Kd.V (Kd.slice 3 (Kd.int .i64)) 34 w' w.heap.size (fun k_ => (w.heap.size ≤ k_)) v0_ r1 ∧ Below w.heap.size w w' := by
 have HR0 := Aside0.mk hr0
 have HC0 := Aside0.mk hc0
 clear hr0 hc0
 have HB := Aside0.mk (Below.refl w.heap.size w)
 have H : ((spec_GyrationOrbit.f k l0).bind fun bt253 => (if bt253.2 = true then ((spec_gyLeast.f k bt253.1).bind fun t257 => (some (t257, true))) else (some (([] : List (List Int)), false)))) = some (r1, r2) := h
 clear h
 replace H := Option.bind_eq_some_iff.mp H
 obtain ⟨⟨t253, t256⟩, A20, H⟩ := H
 replace H : (if t256 = true then ((spec_gyLeast.f k t253).bind fun t257 => (some (t257, true))) else (some (([] : List (List Int)), false))) = some (r1, r2) := H
 have A2 := Aside0.mk A20
 clear A20
 by_cases c3 : t256 = true
 ·subst c3
  have H1 : ((spec_gyLeast.f k t253).bind fun t257 => (some (t257, true))) = some (r1, r2) := by rw [if_pos rfl] at H; exact H
  clear H
  have H := H1
  clear H1
  replace H := Option.bind_eq_some_iff.mp H
  obtain ⟨t257, A40, H⟩ := H
  replace H : (some (t257, true)) = some (r1, r2) := H
  have A4 := Aside0.mk A40
  clear A40
  simp only [Option.some.injEq, Prod.mk.injEq] at H
  obtain ⟨rfl, rfl⟩ := H
  go_enter Try.func8, Try.ntmps8
  go_wp2_with (first | ((with_reducible refine gate_callee (f := 24) rfl ?_); refine goesL_ (some 8) rfl rfl Try.func24 (by kernel_rfl) rfl #[.slice A0 l0.length c0] rfl (by (try simp only [List.map_toArray, List.map_cons, List.map_nil]); first | done | rfl | (simp only [List.length_drop, List.length_take]; rfl)) ?_; (with_reducible refine (spec_GyrationOrbit.calls k _ _ l0 t253 true _ ?side1 ?side2 A2.out).mono ?_); (case side1 => repeat (first | exact HR0.out | (with_reducible refine Kd.C_alloc ?_ _) | (with_reducible refine Kd.C_drewN ?_ _) | (with_reducible refine Kd.C_drew ?_))); (case side2 => exact HC0.out); rintro e w5 ⟨v254, rfl, ho0, hb⟩; refine ⟨_, rfl, ?_⟩; have n0_ := Aside0.mk (Kd.N_lower (Kd.N_mono (ok' := fun k_ => (w.heap.size ≤ k_)) ho0 (fun k_ hk_ => (Nat.le_trans (below_size (by repeat (first | (with_reducible first | exact HB.out | apply below_alloc | apply pw_below_drewN | apply below_drew1) | exact HB.out))) hk_))) (below_size (by repeat (first | (with_reducible first | exact HB.out | apply below_alloc | apply pw_below_drewN | apply below_drew1) | exact HB.out)))); have n1_ := Aside0.mk (below_step (by repeat (first | (with_reducible first | exact HB.out | apply below_alloc | apply pw_below_drewN | apply below_drew1) | exact HB.out)) hb); clear HB; have HO255 := n0_; have HB := n1_; clear n0_ n1_; (try clear hb); (try clear hb2); (try clear hk); (try clear hi); (try clear ho0); obtain ⟨Ao6, co6, eo6⟩ := Kd.N_slice HO255.out; subst eo6) | ((with_reducible refine gate_callee (f := 25) rfl ?_); refine goesL_ (some 14) rfl rfl Try.func25 (by kernel_rfl) rfl #[.slice Ao6 t253.length co6] rfl (by (try simp only [List.map_toArray, List.map_cons, List.map_nil]); first | done | rfl | (simp only [List.length_drop, List.length_take]; rfl)) ?_; (with_reducible refine (spec_gyLeast.calls k (fun k_ => (w.heap.size ≤ k_)) _ _ t253 t257 _ ?side1 A4.out).mono ?_); (case side1 => exact Kd.N_V (HO255.out)); rintro e w7 ⟨v258, rfl, ho0, hb⟩; refine ⟨_, rfl, ?_⟩; have n0_ := Aside0.mk (Kd.N_below (by (with_reducible repeat (first | apply Kd.N_alloc | apply Kd.N_drewN | apply Kd.N_drew)); exact HO255.out) hb); have n1_ := Aside0.mk (Kd.V_lower (Kd.V_mono (ok' := fun k_ => (w.heap.size ≤ k_)) ho0 (fun k_ hk_ => Or.elim hk_ (fun hs_ => hs_) (fun hn_ => (Nat.le_trans (below_size (by repeat (first | (with_reducible first | exact HB.out | apply below_alloc | apply pw_below_drewN | apply below_drew1) | exact HB.out))) hn_)))) (below_size (by repeat (first | (with_reducible first | exact HB.out | apply below_alloc | apply pw_below_drewN | apply below_drew1) | exact HB.out)))); have n2_ := Aside0.mk (below_step (by repeat (first | (with_reducible first | exact HB.out | apply below_alloc | apply pw_below_drewN | apply below_drew1) | exact HB.out)) hb); clear HO255; clear HB; have HO255 := n0_; have HO259 := n1_; have HB := n2_; clear n0_ n1_ n2_; (try clear hb); (try clear hb2); (try clear hk); (try clear hi); (try clear ho0)))
  go_ret2
  exact ⟨_, by first | rfl | (simp [errW_none, errW_some] <;> rfl) | (simp [*, errW_none, errW_some] <;> rfl), by (with_reducible repeat (first | apply Kd.V_alloc | apply Kd.V_drewN | apply Kd.V_drew)); exact HO259.out, by repeat (first | (with_reducible first | exact HB.out | apply below_alloc | apply pw_below_drewN | apply below_drew1) | exact HB.out)⟩
 ·replace c3 := Bool.eq_false_iff.mpr c3
  subst c3
  have H1 : (some (([] : List (List Int)), false)) = some (r1, r2) := by rw [if_neg (show ¬ (false = true) by decide)] at H; exact H
  clear H
  have H := H1
  clear H1
  simp only [Option.some.injEq, Prod.mk.injEq] at H
  obtain ⟨rfl, rfl⟩ := H
  go_enter Try.func8, Try.ntmps8
  go_wp2_with (first | ((with_reducible refine gate_callee (f := 24) rfl ?_); refine goesL_ (some 8) rfl rfl Try.func24 (by kernel_rfl) rfl #[.slice A0 l0.length c0] rfl (by (try simp only [List.map_toArray, List.map_cons, List.map_nil]); first | done | rfl | (simp only [List.length_drop, List.length_take]; rfl)) ?_; (with_reducible refine (spec_GyrationOrbit.calls k _ _ l0 t253 false _ ?side1 ?side2 A2.out).mono ?_); (case side1 => repeat (first | exact HR0.out | (with_reducible refine Kd.C_alloc ?_ _) | (with_reducible refine Kd.C_drewN ?_ _) | (with_reducible refine Kd.C_drew ?_))); (case side2 => exact HC0.out); rintro e w8 ⟨v254, rfl, ho0, hb⟩; refine ⟨_, rfl, ?_⟩; have n0_ := Aside0.mk (Kd.N_lower (Kd.N_mono (ok' := fun k_ => (w.heap.size ≤ k_)) ho0 (fun k_ hk_ => (Nat.le_trans (below_size (by repeat (first | (with_reducible first | exact HB.out | apply below_alloc | apply pw_below_drewN | apply below_drew1) | exact HB.out))) hk_))) (below_size (by repeat (first | (with_reducible first | exact HB.out | apply below_alloc | apply pw_below_drewN | apply below_drew1) | exact HB.out)))); have n1_ := Aside0.mk (below_step (by repeat (first | (with_reducible first | exact HB.out | apply below_alloc | apply pw_below_drewN | apply below_drew1) | exact HB.out)) hb); clear HB; have HO255 := n0_; have HB := n1_; clear n0_ n1_; (try clear hb); (try clear hb2); (try clear hk); (try clear hi); (try clear ho0)))
  go_ret2
  exact ⟨_, by first | rfl | (simp [errW_none, errW_some] <;> rfl) | (simp [*, errW_none, errW_some] <;> rfl), Kd.V_nil _ _ _ _ _, by repeat (first | (with_reducible first | exact HB.out | apply below_alloc | apply pw_below_drewN | apply below_drew1) | exact HB.out)⟩

end Go.Proofs.Ythlgclfhoeakgaa.P

namespace Go.Proofs.Ythlgclfhoeakgaa.Law
open Go.RowKit Go.Proofs.Ythlgclfhoeakgaa Go.Proofs.Ythlgclfhoeakgaa.P Go.Proofs.Ythlgclfhoeakgaa.L Go.Proofs.YthlgclfhoeakgaaW.PrintWords Go.Proofs.YthlgclfhoeakgaaW.PrintLast Go.Proofs.YthlgclfhoeakgaaW.PrintMore

theorem RetC.of_V {α : Type} {d : Kd α} {w : World} {P : Nat → Prop} {T : List α} {b : Bool} {eT B : Nat} {e : Ending} {w' : World} (h : ∃ v0_ : Value, e = .returned (.tuple #[v0_, .bool b]) ∧ Kd.V d eT w' B P v0_ T ∧ Below w.heap.size w w') : RetC d w T b e w' := by
 obtain ⟨v, rfl, hN, hb⟩ := h
 obtain ⟨A, c, rfl⟩ := Kd.V_slice hN
 have := Kd.V_reads' hN
 exact ⟨A, c, rfl, this.2.1, this.2.2, hb⟩
theorem sign_sq {T : List (List Int)} (hs : isSign T = true) : T.length ≤ 6 ∧ ∀ r ∈ T, r.length = T.length := by
 obtain ⟨_, h2, h3, _⟩ := isSign_facts hs
 refine ⟨h2, fun r hr => ?_⟩
 obtain ⟨i, hi, rfl⟩ := List.getElem_of_mem hr
 have := h3 i hi
 rwa [getD_at T [] i hi] at this
theorem least_mem (L : List (List (List Int))) : ∀ b, leastF b L = b ∨ leastF b L ∈ L := by
 induction L with
 | nil => intro b; exact .inl rfl
 | cons x r ih =>
  intro b
  unfold leastF at *
  rw [List.foldl_cons]
  by_cases h : cmpT x b < 0
  ·rw [if_pos h]
   rcases ih x with e | e
   ·exact .inr (by rw [e]; exact List.mem_cons_self ..)
   ·exact .inr (List.mem_cons_of_mem _ e)
  ·rw [if_neg h]
   rcases ih b with e | e
   ·exact .inl e
   ·exact .inr (List.mem_cons_of_mem _ e)
theorem FnExactLeastOfOrbit (A : Option Addr) (cap : Nat) (l : List (List Int)) {W0 : World} (h : RowsIn W0 A l.length cap l) (W : World) (hW : W = W0) :
  Calls Try.prog 3 #[.slice A l.length cap] W fun e w' => e = .returned (.bool true) ∧ Below W.heap.size W w' := by
 subst hW
 refine lawLeastOfOrbit A cap l W h fun hf => ?_
 obtain ⟨⟨r, b⟩, h1, h2, h3, h4, h5⟩ := orbit_ev l hf
 obtain ⟨g1, g2⟩ := gyoP_len hf h2
 obtain ⟨k2, hk2⟩ := h2.rounds
 have hsp : Ev (fun k => spec_LeastOfOrbit.f k l) (leastR l (r, b), b) := by
  unfold spec_LeastOfOrbit.f
  refine Ev.bind h1 ?_
  cases b with
  | false => exact Ev.ite_neg (by simp) (Ev.now _)
  | true =>
   refine Ev.ite_pos rfl (Ev.bind (least_ev r l.length ?_ (fun T hT => ?_) h4 (g2 rfl)) (Ev.now _))
   ·have hm := List.getElem_mem (g2 rfl)
    have := (sign_sq (h5 _ hm)).1
    rw [g1 _ hm] at this; omega
   ·have := (sign_sq (h5 T hT)).2
    rw [g1 T hT] at this
    exact ⟨g1 T hT, this⟩
 obtain ⟨k1, hk1⟩ := hsp.rounds
 refine ⟨leastR l (r, b), b, ?_, fun W' A' c' q1 q2 => (spec_LeastOfOrbit.calls k1 A' c' l _ _ W' q1 q2 hk1).mono fun e w' h => RetC.of_V h, fun W' A' c' q1 q2 => impl_LeastOfOrbit.callsS k2 A' c' l _ _ W' q1 q2 hk2 g2⟩
 cases b with
 | false => exact ⟨by show ([] : List (List Int)).length ≤ _; simp, fun r hr => by cases hr⟩
 | true =>
  have hp := g2 rfl
  have hm : leastT r ∈ r := by
   unfold leastT
   rcases least_mem r (r.getD 0 []) with e | e
   ·rw [e, getD_at r [] 0 hp]; exact List.getElem_mem hp
   ·exact e
  obtain ⟨q1, q2⟩ := sign_sq (h5 _ hm)
  exact ⟨by show (leastT r).length ≤ _; omega, fun x hx => by have := q2 x hx; omega⟩
end Go.Proofs.Ythlgclfhoeakgaa.Law
