/- Texts of one chain, in build order. -/
import Derived.Test.YthbkjaieenochaaYSignsWithPattern21
import Derived.Laws.EntriesVeiled
namespace Go.Proofs.Ythbkjaieenochaa
open Go.RowKit Go.Proofs.Ythbkjaieenochaa.P Go.Proofs.YthbkjaieenochaaW.PrintWords Go.Proofs.YthbkjaieenochaaW.PrintLast Go.Proofs.YthbkjaieenochaaW.PrintMore
set_option linter.unusedVariables false
set_option linter.unusedSimpArgs false

mutual
/-- What goes on a list by joining point i to one from k on. -/
def jnL : Nat → List Int → Int → Int → Option (List (List Int))
 | 0, _, _, _ => none
 | f + 1, p, i, k => if k < (p.length : Int) then (if rd p k < 0 then (if (k - i) % 2 = 1 then (impl_joined.f p i k).bind fun q => (jnE f q).bind fun a => (jnL f p i (k + 1)).bind fun b => some (a ++ b) else jnL f p i (k + 1)) else some []) else some []
/-- All lists that go on one. -/
def jnE : Nat → List Int → Option (List (List Int))
 | 0, _ => none
 | f + 1, p => if p.length ≤ 100 then (slices_Index_int_int.f 200 p (-1)).bind fun r => if r < 0 then some [p] else if r < 100 then jnL f p r (r + 1) else none else none
end
/-- The variables of the closure. -/
structure JnEnv (W : World) (bo ba : Nat) (v : Value) : Prop where
 out : W.heap[bo]? = some (.cells #[v] 22 (0, 0))
 add : W.heap[ba]? = some (.cells #[.func (.func 71) #[] #[.pointer (some ⟨bo, 0, none⟩), .pointer (some ⟨ba, 0, none⟩)]] 69 (0, 0))
 ne : bo ≠ ba
theorem JnEnv.touch {W W' : World} {bo ba : Nat} {v : Value} {S : Nat → Prop} (h : JnEnv W bo ba v) (ht : Touch W W' S) (h0 : ¬ S bo) (h2 : ¬ S ba) : JnEnv W' bo ba v :=
 ⟨ht.blk h.out h0, ht.blk h.add h2, h.ne⟩
theorem JnEnv.below {W W' : World} {bo ba : Nat} {v : Value} (h : JnEnv W bo ba v) (hb : Below W.heap.size W W') : JnEnv W' bo ba v := h.touch (Touch.of_below hb (fun _ => False)) id id
theorem JnEnv.put {W : World} {bo ba : Nat} {v : Value} (h : JnEnv W bo ba v) (v' : Value) : JnEnv (W.setCell ⟨bo, 0, none⟩ v') bo ba v' :=
 ⟨blk_put h.out 0 v' rfl, blk_far h.add (by have := h.ne; exact fun e => this e.symm) _, h.ne⟩
def okJ (bo ba : Nat) : Nat → Prop := fun k => k ≠ bo ∧ k ≠ ba
def tJ (bo : Nat) (v : Value) : Nat → Prop := fun k => k = bo ∨ some k = v.ownBlock
/-- What the closure leaves. -/
def JnPost (W : World) (B bo ba : Nat) (v : Value) (L : List (List Int)) (e : Ending) (W' : World) : Prop :=
 e = .returned (.tuple #[]) ∧ ∃ v', JnEnv W' bo ba v' ∧ Kd.S (Kd.slice 3 (Kd.int .i64)) 28 W' B (okJ bo ba) v' L ∧ Touch W W' (tJ bo v) ∧ ∀ k, some k = v'.ownBlock → some k = v.ownBlock ∨ W.heap.size ≤ k
theorem slice3J {α : Type} {d : Kd α} {e : Nat} {W : World} {B : Nat} {ok : Nat → Prop} {v : Value} {xs : List α} (h : Kd.S d e W B ok v xs) : ∃ A n c, v = .slice A n c := by
 obtain ⟨A, c, rfl⟩ := Kd.R_slice (Kd.S_R h)
 exact ⟨A, _, c, rfl⟩
theorem info_rowsJ : (Try.prog.info? 28).map (fun i => (i.zero, i.size, i.bytes)) = some (some (.slice none 0 0), 1, 24) := by kernel_rfl
/-- A list has been appended to what the variable out holds. -/
theorem jn_app {W w1 : World} {B bo ba N0 : Nat} {v v1 : Value} {L L1 : List (List Int)} (henv : JnEnv W bo ba v) (hS : Kd.S (Kd.slice 3 (Kd.int .i64)) 28 W B (fun k => okJ bo ba k ∧ k < N0) v L)
  (hg : W.grownBy w1 v.ownBlock) (ho : Kd.S (Kd.slice 3 (Kd.int .i64)) 28 w1 B (okJ bo ba) v1 L1) (hat : v1.ownBlock = v.ownBlock ∨ ∃ b, v1.ownBlock = some b ∧ W.heap.size ≤ b) :
  w1.cell? ⟨bo, 0, none⟩ = some v ∧ w1.frozen? ⟨bo, 0, none⟩ = false ∧ JnEnv (w1.setCell ⟨bo, 0, none⟩ v1) bo ba v1 ∧ Kd.S (Kd.slice 3 (Kd.int .i64)) 28 (w1.setCell ⟨bo, 0, none⟩ v1) B (okJ bo ba) v1 L1 ∧ Touch W (w1.setCell ⟨bo, 0, none⟩ v1) (tJ bo v) ∧ (∀ k, some k = v1.ownBlock → some k = v.ownBlock ∨ W.heap.size ≤ k) := by
 have hv : ∀ k, some k = v.ownBlock → okJ bo ba k ∧ k < N0 := fun k e => (Kd.S_R hS).1 k e.symm
 have ht : Touch W w1 (fun k => some k = v.ownBlock) := ⟨hg.os, hg.tape, hg.output, hg.size, fun i hi hn => hg.block i hi hn⟩
 have h1 := henv.touch ht (fun e => (hv _ e).1.1 rfl) (fun e => (hv _ e).1.2 rfl)
 refine ⟨blk_cell h1.out 0, blk_frozen h1.out 0, h1.put v1, Kd.S_far ho (fun k hk => hk.1) v1, (ht.mono (fun k hk => .inr hk)).set ⟨bo, 0, none⟩ (.inl (.inl rfl)) v1, fun k hk => ?_⟩
 rcases hat with e | ⟨b, e, hle⟩
 ·exact .inl (hk.trans e)
 ·rw [e] at hk; injection hk with hk; exact .inr (by omega)
theorem JnPost.back {W w1 W' : World} {B bo ba : Nat} {v : Value} {L : List (List Int)} {e : Ending} (hb : Below W.heap.size W w1) (h : JnPost w1 B bo ba v L e W') : JnPost W B bo ba v L e W' := by
 obtain ⟨he, v', henv, hS, ht, hat⟩ := h
 exact ⟨he, v', henv, hS, (Touch.of_below hb (tJ bo v)).trans ht (fun k hk => .inl hk), fun k hk => (hat k hk).elim .inl (fun h => .inr (Nat.le_trans hb.size h))⟩
set_option maxHeartbeats 4000000 in
set_option maxRecDepth 100000 in
theorem patterns_1.calls (B : Nat) (w0 : World) (bo ba : Nat) (hBo : B ≤ bo) : ∀ (k : Nat) (p : List Int) (X L : List (List Int)) (N0 : Nat) (A : Option Addr) (c : Nat) (v : Value) (W : World),
  jnE k p = some X → (L ++ X).length ≤ 1000000 →
  JnEnv W bo ba v → B ≤ N0 → N0 ≤ W.heap.size → bo < N0 → ba < N0 → Below B w0 W →
  Kd.S (Kd.slice 3 (Kd.int .i64)) 28 W B (fun k => okJ bo ba k ∧ k < N0) v L →
  Kd.R (Kd.int .i64) 3 W B (fun k => okJ bo ba k ∧ N0 ≤ k) (.slice A p.length c) p →
  Calls Try.prog 71 #[.slice A p.length c, .pointer (some ⟨bo, 0, none⟩), .pointer (some ⟨ba, 0, none⟩)] W (JnPost W B bo ba v (L ++ X)) := by
 intro k
 induction k using Nat.strongRecOn with
 | _ k ih =>
 intro p X L N0 A c v W hX hlx henv hBN hNW ho1 ho2 hb hS hR
 cases k with
 | zero => simp [jnE] at hX
 | succ k =>
 rw [jnE] at hX
 by_cases hlen : p.length ≤ 100
 case neg => rw [if_neg hlen] at hX; cases hX
 rw [if_pos hlen] at hX
 obtain ⟨r, hr, hX⟩ := Option.bind_eq_some_iff.1 hX
 have eg : ∀ args w, (callFunc 71 args).run Try.prog w = .ok (.enter 71 args) w := enters_of Try.func71 (by kernel_rfl) rfl
 have hix := slices_Index_int_int.calls 200 A c p (-1) r W (Kd.R_reads' hR).2.2 (Kd.R_reads' hR).2.1 hr
 have IH := Aside0.mk ih
 have HENV := Aside0.mk henv
 have HS := Aside0.mk hS
 have HR := Aside0.mk hR
 have HB := Aside0.mk hb
 have HBO := Aside0.mk hBo
 have HC := Aside0.mk (Kd.R_reads' hR).2.1
 have HN := Aside0.mk (And.intro hBN (And.intro hNW (And.intro ho1 ho2)))
 have HV := Aside0.mk (fun k (e : some k = v.ownBlock) => (Kd.S_R hS).1 k e.symm)
 clear ih henv hS hR hb hBo hBN hNW ho1 ho2 hr
 by_cases hneg : r < 0
 ·rw [if_pos hneg] at hX
  obtain rfl := Option.some.inj hX
  have hnd : decide (r < 0) = true := decide_eq_true hneg
  have HLL := Aside0.mk (show (L.length + 1) * 24 ≤ 140737488355328 by have := hlx; rw [List.length_append] at this; simp at this; omega)
  obtain ⟨L1, hL1⟩ : ∃ L1, L1 = L ++ [p] := ⟨_, rfl⟩
  have HL1 := Aside0.mk hL1
  rw [← hL1] at hlx ⊢
  clear hX hneg hlx hL1
  go_enter Try.func71, Try.ntmps71
  go_wp2_with (first
   | (go_at_call 72; refine hix.mono ?_; rintro e w1 ⟨rfl, hd⟩; have hb1 := hd.below; have he1 := HENV.out.below hb1; have hout : w1.cell? ⟨bo, 0, none⟩ = some v := blk_cell he1.out 0; have HB1 := Aside0.mk hb1; have HE1 := Aside0.mk he1; have HS1 := Aside0.mk (Kd.S_below HS.out hb1); have HR1 := Aside0.mk (Kd.R_below HR.out hb1); have HBB := Aside0.mk (HB.out.trans (hb1.mono (Nat.le_trans HN.out.1 HN.out.2.1))); have HNN := Aside0.mk (Nat.le_trans HN.out.2.1 hb1.size); clear hd hb1 he1)
   | ((with_reducible refine gate_builtin (b := .append) (xs := #[.tmp 10, .tmp 12]) rfl ?_); at_builtin; refine Kd.S_append (Kd.slice 3 (Kd.int .i64)) (w0 := w0) B rfl (.tmp 10) (.tmp 12) 22 28 (.slice none 0 0) 24 rfl Try.underlying22 info_rowsJ rfl (by decide) (by omega) v L p [.slice A p.length c] (okJ bo ba) (fun k => okJ bo ba k ∧ N0 ≤ k) rfl rfl (Kd.M_row HR1.out) ?aP ?aF ?aO HBB.out (Nat.le_trans HN.out.1 HNN.out) HLL.out ?_; (case aP => exact fun k hk => ⟨hk.1, fun e => by have := (HV.out k e).2; have := hk.2; omega⟩); (case aF => exact fun k hk => by have := HN.out; have := HNN.out; exact ⟨by omega, by omega⟩); (case aO => exact Kd.S_mono HS1.out (fun k hk => ⟨hk.1, fun h2 => by have := hk.2; have := h2.2; omega⟩)); intro v1 w2 ho hb hg hat; rw [← HL1.out] at ho; obtain ⟨A1, n1, c1, rfl⟩ := slice3J ho; obtain ⟨hc1, hf1, he1, hs1, ht1, hat1⟩ := jn_app HE1.out HS1.out hg ho hat; have HE2 := Aside0.mk he1; have HS2 := Aside0.mk hs1; have HT2 := Aside0.mk ht1; have HAT2 := Aside0.mk hat1; clear ho hb hg hat he1 hs1 ht1 hat1))
  go_end0
  exact JnPost.back HB1.out ⟨rfl, _, HE2.out, HS2.out, HT2.out, HAT2.out⟩
 ·rw [if_neg hneg] at hX
  by_cases hr1 : r < 100
  case neg => rw [if_neg hr1] at hX; cases hX
  rw [if_pos hr1] at hX
  have hr0 : 0 ≤ r := by omega
  have hnd : decide (r < 0) = false := decide_eq_false hneg
  obtain ⟨XX, hXX⟩ : ∃ XX, XX = L ++ X := ⟨_, rfl⟩
  rw [← hXX] at hlx ⊢
  have HM := Aside0.mk hX
  have HXT := Aside0.mk hlx
  have HX := Aside0.mk hXX.symm
  clear hX hlx hXX hneg
  go_enter Try.func71, Try.ntmps71
  go_wp2_with (go_at_call 72; refine hix.mono ?_; rintro e w1 ⟨rfl, hd⟩; have hb1 := hd.below; have HB1 := Aside0.mk hb1; have HE1 := Aside0.mk (HENV.out.below hb1); have HS1 := Aside0.mk (Kd.S_mono (Kd.S_below HS.out hb1) (ok' := okJ bo ba) (fun k hk => hk.1)); have HF1 := Aside0.mk (Kd.F_mono (Kd.F_bound (Kd.F_below (Kd.R_F HR.out) hb1)) (ok' := fun k => (okJ bo ba k ∧ N0 ≤ k) ∧ k < w1.heap.size) (fun k hk => hk)); have HBB := Aside0.mk (HB.out.trans (hb1.mono (Nat.le_trans HN.out.1 HN.out.2.1))); have HNN := Aside0.mk (Nat.le_trans HN.out.2.1 hb1.size); clear hd hb1)
  obtain ⟨v1, hv1⟩ : ∃ v1, v1 = v := ⟨_, rfl⟩
  rw [← hv1] at HE1 HS1
  have HAT1 := Aside0.mk (show ∀ k, some k = v1.ownBlock → some k = v.ownBlock ∨ w1.heap.size ≤ k from fun k h => .inl (by rw [← hv1]; exact h))
  have HT1 := Aside0.mk (Touch.refl w1 (tJ bo v))
  clear hv1
  go_loopg [5] k (fun kq v5 wr => ∃ (x : Int) (L2 Y : List (List Int)) (v2 : Value), v5 = .int .i64 x ∧ r < x ∧ x ≤ 100 ∧ Aside0 (jnL kq p r x = some Y) ∧ Aside0 (kq ≤ k) ∧ Aside0 (L2 ++ Y = XX) ∧ Aside0 (JnEnv wr bo ba v2) ∧ Aside0 (Kd.S (Kd.slice 3 (Kd.int .i64)) 28 wr B (okJ bo ba) v2 L2) ∧ Aside0 (Kd.F (Kd.int .i64) wr (fun k => (okJ bo ba k ∧ N0 ≤ k) ∧ k < w1.heap.size) A p.length p) ∧ Aside0 (Touch w1 wr (tJ bo v)) ∧ Aside0 (∀ k, some k = v2.ownBlock → some k = v.ownBlock ∨ w1.heap.size ≤ k) ∧ Aside0 (Below B w0 wr))
  case atStart => exact ⟨r + 1, L, X, v1, by go_num, by omega, by omega, HM, ⟨Nat.le_refl _⟩, HX, HE1, HS1, HF1, HT1, HAT1, HBB⟩
  case round =>
   clear HM HX HE1 HS1 HF1 HT1 HAT1 HBB
   obtain ⟨x, L2, Y, v2, rfl, hx0, hx1, HM, HK, HX, HE, HS2, HF, HT, HAT, HBB⟩ := hrel
   cases gk with
   | zero => exact absurd HM.out (by simp [jnL])
   | succ k3 =>
   have H := HM.out
   rw [jnL] at H
   by_cases hxp : x < (p.length : Int)
   ·rw [if_pos hxp] at H
    have hxd : decide (x < (p.length : Int)) = true := decide_eq_true hxp
    have hxz : 0 ≤ x := by omega
    obtain ⟨ad, had, hx⟩ := Kd.at_int (Kd.F_now HF.out) x hxz hxp
    cases had
    have hxzt := eq_true hxz
    by_cases hfree : rd p x < 0
    ·rw [if_pos hfree] at H
     have hfd : decide (rd p x < 0) = true := decide_eq_true hfree
     have hx2 : x + 1 ≤ 100 := by omega
     have hsub : IntKind.i64.wrap (x - r) = x - r := IntWalk.i64_in _ ⟨by omega, by omega⟩
     have hxr : 0 ≤ x - r := by omega
     by_cases hodd : (x - r) % 2 = 1
     ·rw [if_pos hodd] at H
      obtain ⟨q, hq, H⟩ := Option.bind_eq_some_iff.1 H
      obtain ⟨a, ha, H⟩ := Option.bind_eq_some_iff.1 H
      obtain ⟨b2, hb2, H⟩ := Option.bind_eq_some_iff.1 H
      obtain rfl := Option.some.inj H
      have hod : ((x - r) % 2 == 1) = true := beq_iff_eq.mpr hodd
      have HA := Aside0.mk ha
      have HB2 := Aside0.mk hb2
      have hk1 : wr.cell? ⟨ba, 0, none⟩ = some (.func (.func 71) #[] #[.pointer (some ⟨bo, 0, none⟩), .pointer (some ⟨ba, 0, none⟩)]) := blk_cell HE.out.add 0
      have HBC := Aside0.mk (Below.refl wr.heap.size wr)
      have HJ := Aside0.mk (fun W' (hb : Below wr.heap.size wr W') => impl_joined.calls _ c p r x q W' (Kd.F_now (Kd.F_below HF.out hb)) HC.out hq)
      have HN3 := Aside0.mk (show bo < wr.heap.size ∧ ba < wr.heap.size from ⟨blk_lt HE.out.out, blk_lt HE.out.add⟩)
      have HBS := Aside0.mk (show B ≤ wr.heap.size from Nat.le_trans (Nat.le_trans (Nat.le_trans HN.out.1 HN.out.2.1) HB1.out.size) HT.out.size)
      clear HM H ha hb2 hq
      go_wp2
      go_region_held3 (fun W1 => W1.cell? ⟨ba, 0, none⟩ = some (.func (.func 71) #[] #[.pointer (some ⟨bo, 0, none⟩), .pointer (some ⟨ba, 0, none⟩)])) (first | (exact hk1) | (exact hq1) | (have hh_ := ‹World.cell? _ _ = _›; exact pw_cell_below (below_alloc (Below.refl _ _) _) hh_)) (first
       | (go_at_call 73; (refine (HJ.out _ ?hbY).mono ?_); (case hbY => exact (by repeat (first | exact HBC.out | refine below_alloc ?_ _ | refine below_drew ?_))); rintro e w2 ⟨vc, rfl, hR2, hb2⟩; obtain ⟨A2, c2, rfl⟩ := Kd.R_slice hR2; have r_ := fun (h : Below wr.heap.size wr _) => Aside0.mk (Kd.R_lower (Kd.R_mono (ok' := fun k => okJ bo ba k ∧ wr.heap.size ≤ k) (Kd.R_bound hR2) (fun k hk => by have h1 := Nat.le_trans h.size hk.2.1; have h2 := HN3.out; exact ⟨⟨by omega, by omega⟩, h1⟩)) (Nat.le_trans HBS.out h.size)); have HR2 := r_ (by repeat (first | exact HBC.out | refine below_alloc ?_ _ | refine below_drew ?_)); clear r_; have n_ := fun h => Aside0.mk (Below.trans (B := wr.heap.size) h (hb2.mono (Below.size h))); have m_ := n_ (by repeat (first | exact HBC.out | refine below_alloc ?_ _ | refine below_drew ?_)); clear n_ HBC; have HBC := m_; clear m_; (try clear hq1); have hq1 := pw_cell_below HBC.out hk1; clear hR2 hb2)
       | (go_at_fn 71; refine (IH.out k3 (by have := HK.out; omega) q a L2 wr.heap.size A2 c2 v2 _ HA.out (by have := HXT.out; rw [← HX.out] at this; simp only [List.length_append] at this ⊢; omega) (HE.out.below HBC.out) HBS.out HBC.out.size HN3.out.1 HN3.out.2 (HBB.out.trans (HBC.out.mono HBS.out)) (Kd.S_old HS2.out HBC.out) HR2.out).mono ?_; rintro e w4 ⟨rfl, v7, he7, hs7, ht7, hv7⟩; clear hq1; have hq1 := blk_cell he7.add 0; have HE7 := Aside0.mk he7; have HS7 := Aside0.mk hs7; have HT7 := Aside0.mk ht7; have HV7 := Aside0.mk hv7; clear he7 hs7 ht7 hv7))
      all_goals
       have HL5 := Aside0.mk (show (L2 ++ a) ++ b2 = XX by rw [List.append_assoc]; exact HX.out)
       have HMS := Aside0.mk (show ∀ k, tJ bo v2 k → B ≤ k from fun k hk => hk.elim (fun e => e ▸ HBO.out) (fun e => Kd.S_base HS2.out k e.symm))
       have HMB := Aside0.mk (show ∀ k, tJ bo v2 k → tJ bo v k ∨ w1.heap.size ≤ k from fun k hk => hk.elim (fun e => .inl (.inl e)) (fun e => (HAT.out k e).elim (fun h => .inl (.inr h)) .inr))
       have HMN := Aside0.mk (show ∀ k, (okJ bo ba k ∧ N0 ≤ k) ∧ k < w1.heap.size → ¬ tJ bo v2 k from fun k hk he => he.elim hk.1.1.1 (fun e => (HAT.out k e).elim (fun e => by have := (HV.out k e).2; have := hk.1.2; omega) (fun e => by have := hk.2; omega)))
       go_wp2
       go_roundg k3
       case measure => have := HK.out; omega
       case rel => exact ⟨x + 1, L2 ++ a, b2, v7, by go_num, by omega, by omega, HB2, ⟨by have := HK.out; omega⟩, HL5, HE7, HS7, ⟨HT7.out.F (Kd.F_below HF.out HBC.out) HMN.out⟩, ⟨(HT.out.then_below HBC.out).trans HT7.out HMB.out⟩, ⟨fun k hk => (HV7.out k hk).elim (fun e => HAT.out k e) (fun e => .inr (by have := HT.out.size; have := HBC.out.size; omega))⟩, ⟨(HBB.out.trans (HBC.out.mono HBS.out)).trans (HT7.out.below HMS.out (Nat.le_trans HBS.out HBC.out.size))⟩⟩
     ·rw [if_neg hodd] at H
      have hod : ((x - r) % 2 == 1) = false := beq_eq_false_iff_ne.mpr hodd
      have HM := Aside0.mk H
      clear H
      go_wp2
      go_roundg k3
      case measure => have := HK.out; omega
      case rel => exact ⟨x + 1, L2, Y, v2, by go_num, by omega, by omega, HM, ⟨by have := HK.out; omega⟩, HX, HE, HS2, HF, HT, HAT, HBB⟩
    ·rw [if_neg hfree] at H
     obtain rfl := Option.some.inj H
     have hfd : decide (rd p x < 0) = false := decide_eq_false hfree
     have HX3 := Aside0.mk (show L2 = XX by have := HX.out; rwa [List.append_nil] at this)
     clear H HM
     go_wp2
     go_end0
     exact JnPost.back HB1.out ⟨rfl, v2, HE.out, by rw [← HX3.out]; exact HS2.out, HT.out, HAT.out⟩
   ·rw [if_neg hxp] at H
    obtain rfl := Option.some.inj H
    have hxd : decide (x < (p.length : Int)) = false := decide_eq_false hxp
    have HX3 := Aside0.mk (show L2 = XX by have := HX.out; rwa [List.append_nil] at this)
    clear H HM
    go_wp2
    go_end0
    exact JnPost.back HB1.out ⟨rfl, v2, HE.out, by rw [← HX3.out]; exact HS2.out, HT.out, HAT.out⟩
end Go.Proofs.Ythbkjaieenochaa

namespace Go.Proofs.Ythbkjaieenochaa.P
open Go.RowKit Go.Proofs.YthbkjaieenochaaW.PrintWords Go.Proofs.YthbkjaieenochaaW.PrintLast Go.Proofs.YthbkjaieenochaaW.PrintMore
attribute [local go_sem] max2_int min2_int max_two min_two max_three min_three max_four min_four   -- for this text's walks alone
set_option linter.unusedVariables false
set_option linter.unusedSimpArgs false

def impl_isSide.f (a0 : Int) : Option (Bool) := (impl_within.f a0 1 6).bind fun t132 => (some t132)
set_option maxHeartbeats 8000000 in
set_option maxRecDepth 100000 in
theorem impl_isSide.calls (a0 : Int) (r : Bool) (w : World) (h : impl_isSide.f a0 = some r) :
  Calls Try.prog 38 #[.int .i64 a0] w fun e w' => e = .returned (.bool r) ∧ Drawn0 w w' := by
 have H : ((impl_within.f a0 1 6).bind fun t132 => (some t132)) = some r := h
 clear h
 replace H := Option.bind_eq_some_iff.mp H
 obtain ⟨t132, A20, H⟩ := H
 replace H : (some t132) = some r := H
 have A2 := Aside0.mk A20
 clear A20
 obtain rfl := Option.some.inj H
 go_enter Try.func38, Try.ntmps38
 go_wp2_with (first | ((with_reducible refine gate_callee (f := 49) rfl ?_); refine goesL_ (some 4) rfl rfl Try.func49 (by kernel_rfl) rfl #[.int .i64 a0, .int .i64 1, .int .i64 6] rfl (by (try simp only [List.map_toArray, List.map_cons, List.map_nil]); first | done | rfl | (simp only [List.length_drop, List.length_take]; rfl)) ?_; (with_reducible refine (impl_within.calls a0 1 6 t132 _ A2.out).mono ?_); rintro e w' ⟨rfl, ⟨nd, rfl⟩⟩; refine ⟨_, rfl, ?_⟩))
 go_ret
 exact ⟨by first | rfl | (simp; done) | (simp [*]; done), by repeat (first | exact Drawn0.refl _ | apply Drawn0.step)⟩

end Go.Proofs.Ythbkjaieenochaa.P
