/- Texts of one chain, in build order. -/
import Derived.Test.YthbkjaieenochaaYCountByPattern11
namespace Go.Proofs.Ythbkjaieenochaa.L
open Go.RowKit Go.Proofs.Ythbkjaieenochaa Go.Proofs.Ythbkjaieenochaa.P Go.Proofs.YthbkjaieenochaaW.PrintWords Go.Proofs.YthbkjaieenochaaW.PrintLast Go.Proofs.YthbkjaieenochaaW.PrintMore
set_option linter.unusedVariables false
set_option maxRecDepth 100000

/-- All patterns of side n. -/
def paX (n : Nat) : List (List Int) := (jnE 200 (List.replicate (2 * n) (-1))).getD []
/-- What is to be said of them. -/
def PaOk (n : Nat) : Prop := bits_Mul.f 1 ((2 * n : Nat) : Int) = some (0, ((2 * n : Nat) : Int)) ∧ jnE 200 (List.replicate (2 * n) (-1)) = some (paX n) ∧ spec_loAll.f 2000 (n : Int) 0 = some (paX n) ∧ (paX n).length ≤ 200 ∧ ((paX n).all fun x => decide (x.length = 2 * n)) = true ∧ ((paX n).all fun x => decide (impl_IsPattern.f 1000 x = some true)) = true
instance (n : Nat) : Decidable (PaOk n) := by unfold PaOk; infer_instance
theorem pa_1 : PaOk 1 := by decide +kernel
theorem pa_2 : PaOk 2 := by decide +kernel
theorem pa_3 : PaOk 3 := by decide +kernel
theorem pa_4 : PaOk 4 := by decide +kernel
theorem pa_5 : PaOk 5 := by decide +kernel
theorem pa_6 : PaOk 6 := by decide +kernel
theorem pa_all {n : Nat} (h0 : 1 ≤ n) (h1 : n ≤ 6) : PaOk n := by
 have e : n = 1 ∨ n = 2 ∨ n = 3 ∨ n = 4 ∨ n = 5 ∨ n = 6 := by omega
 rcases e with rfl | rfl | rfl | rfl | rfl | rfl
 ·exact pa_1
 ·exact pa_2
 ·exact pa_3
 ·exact pa_4
 ·exact pa_5
 ·exact pa_6
theorem impl_patterns_calls (n : Nat) (h0 : 1 ≤ n) (h1 : n ≤ 6) (w : World) : Calls Try.prog 39 #[.int .i64 n] w (RetM2 w (paX n)) := by
 obtain ⟨p1, p2, _, p4, _, p6⟩ := pa_all h0 h1
 exact impl_patterns.callsG n 200 1000 (paX n) w h0 (by omega) p1 p2 (by omega) (fun x hx => of_decide_eq_true (List.all_eq_true.1 p6 x hx))
end Go.Proofs.Ythbkjaieenochaa.L

namespace Go.Proofs.Ythbkjaieenochaa
open Go.RowKit Go.Proofs.YthbkjaieenochaaW.PrintWords Go.Proofs.YthbkjaieenochaaW.PrintLast Go.Proofs.YthbkjaieenochaaW.PrintMore
set_option linter.unusedVariables false
set_option linter.unusedSimpArgs false

/-- What is left behind a call with a function value: the value has been called m times. -/
def EsRet (St : Nat → World → (Nat → Prop) → Prop) (m : Nat) (w : World) (ok : Nat → Prop) (e : Ending) (w' : World) : Prop :=
 e = .returned (.tuple #[]) ∧ ∃ ok', St m w' ok' ∧ Touch w w' ok ∧ ∀ k, ok' k → ok k ∨ w.heap.size ≤ k
/-- eachSigns calls a function value on each of the tables All. -/
def EachSigns (n : Nat) (All : List (List (List Int))) : Prop :=
 ∀ (g : Nat) (lb : Array Value) (w : World) (St : Nat → World → (Nat → Prop) → Prop) (_ : Stays St)
  (_ : ∀ args w, (callFunc g args).run Try.prog w = .ok (.enter g args) w)
  (_ : ∀ (j : Nat) (T : List (List Int)) (A : Option Addr) (c : Nat) (W : World) (ok : Nat → Prop), All[j]? = some T → St j W ok → Kd.F (Kd.slice 3 (Kd.int .i64)) W (fun k => ¬ ok k ∧ k < W.heap.size) A T.length T → T.length ≤ c → Calls Try.prog g (#[.slice A T.length c] ++ lb) W (Stepped St (j + 1) W ok))
  (ok : Nat → Prop) (_ : St 0 w ok), Calls Try.prog 95 #[.int .i64 n, .func (.func g) #[] lb] w (EsRet St All.length w ok)
end Go.Proofs.Ythbkjaieenochaa

namespace Go.Proofs.Ythbkjaieenochaa.P
open Go.RowKit Go.Proofs.YthbkjaieenochaaW.PrintWords
def spec_weAdd.l0 : Nat → Int → List Int → Option (List Int)
 | 0, _, _ => none
 | k + 1, m, x => if (x.length : Int) ≤ m then (if x.length < 17592186044416 then spec_weAdd.l0 k m (x ++ [0]) else none) else (if 0 ≤ m then (if m < (x.length : Int) then some (x.set m.toNat (wrap64 (rd x m + 1))) else none) else none)
end Go.Proofs.Ythbkjaieenochaa.P

namespace Go.Proofs.Ythbkjaieenochaa
open Go.RowKit Go.Proofs.Ythbkjaieenochaa.P Go.Proofs.YthbkjaieenochaaW.PrintWords Go.Proofs.YthbkjaieenochaaW.PrintLast Go.Proofs.YthbkjaieenochaaW.PrintMore
set_option linter.unusedVariables false
set_option linter.unusedSimpArgs false

/-- The state of tally: the variable bo holds the counts. -/
def TySt (W0 : World) (B bo : Nat) (cs : Nat → List Int) (j : Nat) (W : World) (ok : Nat → Prop) : Prop :=
 ∃ v, (ok = fun k => k < W0.heap.size ∨ some k = v.ownBlock) ∧ W0.heap.size ≤ W.heap.size ∧ (∀ k, k < B → W.heap[k]? = W0.heap[k]?) ∧ W.heap[bo]? = some (.cells #[v] 28 (0, 0)) ∧ Kd.R (Kd.int .i64) 3 W B (fun k => k ≠ bo) v (cs j)
theorem heap_grew {W W' : World} {m : Nat} (h : m ≤ W.heap.size) (he : ∀ k, k < m → W'.heap[k]? = W.heap[k]?) : m ≤ W'.heap.size := by
 rcases Nat.eq_zero_or_pos m with h0 | h0
 ·omega
 ·have h1 := he (m - 1) (by omega)
  rw [Array.getElem?_eq_getElem (show m - 1 < W.heap.size by omega)] at h1
  have := (Array.getElem?_eq_some_iff.1 h1).1
  omega
theorem TySt.stays (W0 : World) (B bo : Nat) (cs : Nat → List Int) (hB : B ≤ bo) (hbo : bo < W0.heap.size) : Stays (TySt W0 B bo cs) := by
 refine ⟨?_, ?_⟩
 ·rintro j W ok ⟨v, rfl, hs, _, _, hR⟩ k hk
  rcases hk with h | h
  ·omega
  ·exact Kd.R_lt hR k h.symm
 ·rintro j W W' ok ⟨v, rfl, hs, hB2, hc, hR⟩ hm
  have hg := heap_grew hs (fun k hk => hm k (.inl hk))
  refine ⟨v, rfl, hg, fun k hk => (hm k (.inl (by omega))).trans (hB2 k hk), (hm bo (.inl hbo)).trans hc, ?_⟩
  exact Kd.R_mono (Kd.R_step (Kd.R_tight2 rfl hR) (fun k hk _ => hm k (.inr hk.1))) (fun k hk => hk.2)
theorem farUr {W : World} {g : Nat} {o : Obj} {p : Addr} {u : Value} (h : W.heap[g]? = some o) (hn : g ≠ p.block) : (W.setCell p u).heap[g]? = some o := (Below.heap_setCell W p u g hn).trans h
/-- The counts have been changed (a number appended or written). -/
theorem ty_app {W w4 : World} {B bo : Nat} {v v4 : Value} {x y : List Int} (hcell : W.heap[bo]? = some (.cells #[v] 28 (0, 0))) (hR : Kd.R (Kd.int .i64) 3 W B (fun k => k ≠ bo) v x)
  (hg : W.grownBy w4 v.ownBlock) (ho : Kd.R (Kd.int .i64) 3 w4 B (fun k => k ≠ bo) v4 y) (hat : v4.ownBlock = v.ownBlock ∨ ∃ b, v4.ownBlock = some b ∧ W.heap.size ≤ b) :
  w4.cell? ⟨bo, 0, none⟩ = some v ∧ w4.frozen? ⟨bo, 0, none⟩ = false ∧ (w4.setCell ⟨bo, 0, none⟩ v4).heap[bo]? = some (.cells #[v4] 28 (0, 0)) ∧ Kd.R (Kd.int .i64) 3 (w4.setCell ⟨bo, 0, none⟩ v4) B (fun k => k ≠ bo) v4 y ∧ Touch W (w4.setCell ⟨bo, 0, none⟩ v4) (tD bo v) ∧ (∀ k, some k = v4.ownBlock → some k = v.ownBlock ∨ W.heap.size ≤ k) := by
 have hv : ∀ k, some k = v.ownBlock → k ≠ bo := fun k e => hR.1 k e.symm
 have ht : Touch W w4 (fun k => some k = v.ownBlock) := ⟨hg.os, hg.tape, hg.output, hg.size, fun i hi hn => hg.block i hi hn⟩
 have h1 := ht.blk hcell (fun e => hv _ e rfl)
 refine ⟨blk_cell h1 0, blk_frozen h1 0, blk_put h1 0 v4 rfl, Kd.R_far ho (fun k hk => hk) v4, (ht.mono (fun k hk => .inr hk)).set ⟨bo, 0, none⟩ (.inl (.inl rfl)) v4, fun k hk => ?_⟩
 rcases hat with e | ⟨b, e, hle⟩
 ·exact .inl (hk.trans e)
 ·rw [e] at hk; injection hk with hk; exact .inr (by omega)
set_option maxHeartbeats 4000000 in
set_option maxRecDepth 100000 in
theorem tally_1.calls (W0 : World) (B bf bo gof : Nat) (lbof : Array Value) (cs : Nat → List Int) (All : List (List (List Int))) (ofv : List (List Int) → Int) (hbf : bf < B) (hB : B ≤ bo) (hbo : bo < W0.heap.size)
  (hfn : W0.heap[bf]? = some (.cells #[.func (.func gof) #[] lbof] 68 (0, 0)))
  (eg : ∀ args w, (callFunc gof args).run Try.prog w = .ok (.enter gof args) w)
  (hof : ∀ (T : List (List Int)) (A : Option Addr) (c : Nat) (W : World), T ∈ All → (∀ k, k < B → W.heap[k]? = W0.heap[k]?) → Kd.C (Kd.slice 3 (Kd.int .i64)) W A T.length T → T.length ≤ c → Calls Try.prog gof (#[.slice A T.length c] ++ lbof) W fun e w' => e = .returned (.int .i64 (ofv T)) ∧ Below W.heap.size W w')
  (hcs : ∀ (j : Nat) (T : List (List Int)), All[j]? = some T → 0 ≤ ofv T ∧ spec_weAdd.l0 1000 (ofv T) (cs j) = some (cs (j + 1)))
  (j : Nat) (T : List (List Int)) (A : Option Addr) (c : Nat) (W : World) (ok : Nat → Prop) (hT : All[j]? = some T) (hst : TySt W0 B bo cs j W ok) (hF : Kd.F (Kd.slice 3 (Kd.int .i64)) W (fun k => ¬ ok k ∧ k < W.heap.size) A T.length T) (hc : T.length ≤ c) :
  Calls Try.prog 98 (#[.slice A T.length c] ++ #[.pointer (some ⟨bf, 0, none⟩), .pointer (some ⟨bo, 0, none⟩)]) W (Stepped (TySt W0 B bo cs) (j + 1) W ok) := by
 obtain ⟨v0, rfl, hsz, hlow, hcell, hR⟩ := hst
 obtain ⟨hm0, hm1⟩ := hcs j T hT
 obtain ⟨m, hm⟩ : ∃ m, m = ofv T := ⟨_, rfl⟩
 have hcf := hof T A c W (List.mem_of_getElem? hT) hlow (Kd.F_now hF) hc
 rw [← hm] at hm0 hm1 hcf
 have hfw : W.heap[bf]? = some (.cells #[.func (.func gof) #[] lbof] 68 (0, 0)) := (hlow bf hbf).trans hfn
 have hk1 : W.cell? ⟨bf, 0, none⟩ = some (.func (.func gof) #[] lbof) := blk_cell hfw 0
 have HCF := Aside0.mk hcf
 have HM := Aside0.mk hm1
 have HCELL := Aside0.mk hcell
 have HR := Aside0.mk hR
 have HSZ := Aside0.mk hsz
 have HLOW := Aside0.mk hlow
 have HBW := Aside0.mk (show B ≤ W.heap.size by omega)
 obtain ⟨A0, c0, rfl⟩ := Kd.R_slice hR
 obtain ⟨r, hr⟩ : ∃ r, r = cs (j + 1) := ⟨_, rfl⟩
 have HRJ := Aside0.mk hr
 rw [← hr] at HM
 clear hof hcs hcf hm1 hcell hR hsz hlow hF hc hfn hT hfw hm hr
 go_enter Try.func98, Try.ntmps98
 go_wp2_with (go_at_fn gof; refine HCF.out.mono ?_; rintro e w1 ⟨rfl, hb⟩; have HB1 := Aside0.mk hb; clear hb)
 have HS := Aside0.mk (show ∀ k, tD bo (.slice A0 (cs j).length c0) k → B ≤ k from fun k hk => hk.elim (fun e => by omega) (fun e => Kd.R_base HR.out k e.symm))
 go_loopg [9] 1000 (fun kq v9 wr => ∃ (x : List Int) (v : Value), Aside0 (spec_weAdd.l0 kq m x = some r) ∧ Aside0 (wr.heap[bo]? = some (.cells #[v] 28 (0, 0))) ∧ Aside0 (Kd.R (Kd.int .i64) 3 wr B (fun k => k ≠ bo) v x) ∧ Aside0 (Touch W wr (tD bo (.slice A0 (cs j).length c0))) ∧ Aside0 (∀ k, some k = v.ownBlock → some k = (Value.slice A0 (cs j).length c0).ownBlock ∨ W.heap.size ≤ k))
 case atStart => exact ⟨cs j, _, HM, ⟨blk_below HCELL.out HB1.out⟩, ⟨Kd.R_below HR.out HB1.out⟩, ⟨Touch.of_below HB1.out _⟩, ⟨fun k h => .inl h⟩⟩
 case round =>
  clear HM HB1 HCF
  obtain ⟨x, v, HM, HCE, HRX, HT, HV⟩ := hrel
  cases gk with
  | zero => exact absurd HM.out (by simp [spec_weAdd.l0])
  | succ k3 =>
  have H := HM.out
  simp only [spec_weAdd.l0] at H
  clear HM
  obtain ⟨A1, c1, rfl⟩ := Kd.R_slice HRX.out
  have hk2 : wr.cell? ⟨bo, 0, none⟩ = some (.slice A1 x.length c1) := blk_cell HCE.out 0
  have HMB := Aside0.mk (show ∀ k, tD bo (.slice A1 x.length c1) k → tD bo (.slice A0 (cs j).length c0) k ∨ W.heap.size ≤ k from fun k hk => hk.elim (fun e => .inl (.inl e)) (fun e => (HV.out k e).elim (fun h => .inl (.inr h)) .inr))
  by_cases hle : (x.length : Int) ≤ m
  ·rw [if_pos hle] at H
   have hld : decide ((x.length : Int) ≤ m) = true := decide_eq_true hle
   split at H
   case isFalse => cases H
   rename_i hlen
   have HLEN := Aside0.mk hlen
   obtain ⟨y, hy⟩ : ∃ y, y = x ++ [0] := ⟨_, rfl⟩
   rw [← hy] at H
   have HY := Aside0.mk hy
   have HM := Aside0.mk H
   clear H hlen hy hle
   go_wp2_with (first | ((with_reducible refine gate_builtin (b := .append) (xs := #[.tmp 13, .tmp 14]) rfl ?_); at_builtin; refine Kd.R_append (Kd.int .i64) (w0 := W) B rfl (.tmp 13) (.tmp 14) 28 3 (.int .i64 0) 8 rfl Try.underlying28 info_ints rfl (by decide) (by omega) (.slice A1 x.length c1) x 0 [.int .i64 0] (fun k => k ≠ bo) (fun _ => False) rfl rfl ?aP (fun _ hk => hk.elim) ?aF ?aO ?aB ?aS ?aL ?_; (case aP => exact rfl); (case aB => exact HT.out.below HS.out HBW.out); (case aF => exact (fun k hk => by have := blk_lt HCE.out; omega)); (case aO => exact HRX.out); (case aS => exact Nat.le_trans HBW.out HT.out.size); (case aL => have := HLEN.out; omega); intro v8 w8 ho hb hg hat; rw [← HY.out] at ho; obtain ⟨A8, c8, rfl⟩ := Kd.R_slice ho; obtain ⟨hk8, hf8, he8, hs8, ht8, hv8⟩ := ty_app HCE.out HRX.out hg ho hat; have HE8 := Aside0.mk he8; have HS8 := Aside0.mk hs8; have HT8 := Aside0.mk ht8; have HV8 := Aside0.mk hv8; clear ho hb hg hat he8 hs8 ht8 hv8))
   go_roundg k3
   case measure => omega
   case rel => exact ⟨y, _, HM, HE8, HS8, ⟨HT.out.trans HT8.out HMB.out⟩, ⟨fun k hk => (HV8.out k hk).elim (fun e => HV.out k e) (fun e => .inr (by have := HT.out.size; omega))⟩⟩
  ·rw [if_neg hle] at H
   have hld : decide ((x.length : Int) ≤ m) = false := decide_eq_false hle
   rw [if_pos hm0] at H
   split at H
   case isFalse => cases H
   rename_i hmx
   obtain ⟨y, hy⟩ : ∃ y, y = x.set m.toNat (wrap64 (rd x m + 1)) := ⟨_, rfl⟩
   rw [← hy] at H
   have hyr := Option.some.inj H
   have HY := Aside0.mk hy
   have HYR := Aside0.mk hyr
   clear H hy hyr
   obtain ⟨g1, c2, e1, gb1, gl1, _, hg1⟩ := Kd.R_form HRX.out (by omega)
   cases e1
   have hcn := Kd.R_celln 0 HRX.out m hm0 hmx
   have hx := hcn.1
   have hfz := hcn.2
   have HP := Kd.R_putg HRX.out m (wrap64 (rd x m + 1))
   have HG1 := Aside0.mk HP.2
   have HPR := Aside0.mk HP.1
   clear HP hcn hg1
   have hne : bo ≠ g1 := fun e => (HRX.out.1 g1 rfl) e.symm
   have HCE2 := Aside0.mk (farUr HCE.out (p := ⟨g1, m.toNat, none⟩) (u := .int .i64 (wrap64 (rd x m + 1))) hne)
   have HT2 := Aside0.mk ((HT.out.trans (Touch.refl wr (fun k => some k = some g1)) (fun k e => (HV.out k e).imp .inr id)).set ⟨g1, m.toNat, none⟩ (by rcases HV.out g1 rfl with h | h; exact .inl (.inr h); exact .inr h) (.int .i64 (wrap64 (rd x m + 1))))
   go_wp2
   go_ret
   refine ⟨rfl, fun k => k < W0.heap.size ∨ some k = (Value.slice (some ⟨g1, 0, none⟩) x.length c1).ownBlock, ⟨_, rfl, ?_, ?_, HCE2.out, ?_⟩, HT2.out.mono (fun k hk => hk.elim (fun e => .inl (by omega)) .inr), fun k hk => hk.elim (fun h => .inl (.inl h)) (fun h => (HV.out k h).imp .inr id)⟩
   ·exact Nat.le_trans HSZ.out HT2.out.size
   ·intro k hk
    exact (HT2.out.heap (by have := HBW.out; omega) (fun h => by have := HS.out k h; omega)).trans (HLOW.out k hk)
   ·rw [← HRJ.out, ← HYR.out, HY.out]; exact HPR.out

set_option maxHeartbeats 4000000 in
set_option maxRecDepth 100000 in
theorem impl_tally.callsG (n least gof : Nat) (lbof : Array Value) (cs : Nat → List Int) (All : List (List (List Int))) (ofv : List (List Int) → Int) (hl : least ≤ 1000) (hES : EachSigns n All)
  (eg : ∀ args w, (callFunc gof args).run Try.prog w = .ok (.enter gof args) w) (w : World)
  (hof : ∀ (T : List (List Int)) (A : Option Addr) (c : Nat) (W : World), T ∈ All → (∀ k, k < w.heap.size → W.heap[k]? = w.heap[k]?) → Kd.C (Kd.slice 3 (Kd.int .i64)) W A T.length T → T.length ≤ c → Calls Try.prog gof (#[.slice A T.length c] ++ lbof) W fun e w' => e = .returned (.int .i64 (ofv T)) ∧ Below W.heap.size W w')
  (h0 : cs 0 = List.replicate least 0)
  (hcs : ∀ (j : Nat) (T : List (List Int)), All[j]? = some T → 0 ≤ ofv T ∧ spec_weAdd.l0 1000 (ofv T) (cs j) = some (cs (j + 1))) :
  Calls Try.prog 68 #[.int .i64 n, .int .i64 least, .func (.func gof) #[] lbof] w fun e w' => ∃ v0_ : Value, e = .returned (v0_) ∧ Kd.R (Kd.int .i64) 3 w' w.heap.size (fun _ => True) v0_ (cs All.length) ∧ Below w.heap.size w w' := by
 have egT : ∀ args w, (callFunc 98 args).run Try.prog w = .ok (.enter 98 args) w := enters_of Try.func98 (by kernel_rfl) rfl
 have mk1 : ∀ W : World, Sem.run Try.prog (Instr.makeSlice 28 (.int .i64 least) (.int .i64 least)) W = Result.ok (Value.slice (some ⟨W.heap.size, 0, none⟩) least least) (W.alloc (.cells (madeCells #[.int .i64 0] least) 3)) := fun W => run_make_row' (P := Try.prog) 28 3 (.int .i64 0) 8 Try.underlying28 info_ints rfl .i64 .i64 least (by omega) (by omega) W
 obtain ⟨W0, hW0⟩ : ∃ W0, W0 = ((w.alloc (.cells #[.func (.func gof) #[] lbof] 68)).alloc (.cells (madeCells #[.int .i64 0] least) 3)).alloc (.cells #[.slice (some ⟨w.heap.size + 1, 0, none⟩) least least] 28) := ⟨_, rfl⟩
 have hsz : W0.heap.size = w.heap.size + 1 + 1 + 1 := by rw [hW0]; simp
 have hb0 : Below w.heap.size w W0 := by rw [hW0]; exact below_alloc (below_alloc (below_alloc (Below.refl _ _) _) _) _
 have hf0 : W0.heap[w.heap.size]? = some (.cells #[.func (.func gof) #[] lbof] 68 (0, 0)) := by rw [hW0]; exact blk_alloc (blk_alloc (blk_new_at rfl) _) _
 have hI : intBlk W0 (w.heap.size + 1) (List.replicate least 0) := by
  unfold intBlk
  rw [← madeInts, hW0]; exact blk_alloc (blk_new_at (by simp)) _
 have hbo : W0.heap[w.heap.size + 1 + 1]? = some (.cells #[.slice (some ⟨w.heap.size + 1, 0, none⟩) least least] 28 (0, 0)) := by rw [hW0]; exact blk_new_at (by simp)
 have hR := intBlk_R (ok := fun k => k ≠ w.heap.size + 1 + 1) hI (show w.heap.size + 1 ≤ w.heap.size + 1 by omega) (by omega) (by simp; omega)
 rw [List.length_replicate] at hR
 have hcall := hES 98 #[.pointer (some ⟨w.heap.size, 0, none⟩), .pointer (some ⟨w.heap.size + 1 + 1, 0, none⟩)] W0 (TySt W0 (w.heap.size + 1) (w.heap.size + 1 + 1) cs) (TySt.stays _ _ _ _ (by omega) (by omega)) egT
  (tally_1.calls W0 (w.heap.size + 1) w.heap.size (w.heap.size + 1 + 1) gof lbof cs All ofv (by omega) (by omega) (by omega) hf0 eg (fun T A c W hT hlow hC hc => hof T A c W hT (fun k hk => (hlow k (by omega)).trans (hb0.block k hk)) hC hc) hcs)
  (fun k => k < W0.heap.size ∨ some k = (Value.slice (some ⟨w.heap.size + 1, 0, none⟩) least least).ownBlock) ⟨_, rfl, Nat.le_refl _, fun k _ => rfl, hbo, by rw [h0]; exact hR⟩
 have HC := Aside0.mk hcall
 have HB0 := Aside0.mk hb0
 have HSZ := Aside0.mk hsz
 have HW0 := Aside0.mk hW0
 clear hcall hb0 hsz hW0 hf0 hI hbo hR h0 hcs hof hES egT
 go_enter Try.func68, Try.ntmps68
 go_wp2_with (go_at_call 95; rw [← HW0.out]; refine HC.out.mono ?_; rintro e w5 ⟨rfl, ok5, ⟨v5, rfl, hs5, hl5, hc5, hR5⟩, ht5, ho5⟩; have hx5 : w5.cell? ⟨w.heap.size + 1 + 1, 0, none⟩ = some v5 := blk_cell hc5 0; have HS5 := Aside0.mk hs5; have HL5 := Aside0.mk hl5; have HR5 := Aside0.mk hR5; have HT5 := Aside0.mk ht5; clear hs5 hl5 hR5 ht5 ho5 hc5)
 go_ret
 refine ⟨_, rfl, Kd.R_lower (Kd.R_mono HR5.out (fun _ _ => trivial)) (by omega), ⟨HT5.out.os.trans HB0.out.os, HT5.out.tape.trans HB0.out.tape, HT5.out.output.trans HB0.out.output, Nat.le_trans HB0.out.size HT5.out.size, fun k hk => (HL5.out k (by omega)).trans (HB0.out.block k hk)⟩⟩
end Go.Proofs.Ythbkjaieenochaa
