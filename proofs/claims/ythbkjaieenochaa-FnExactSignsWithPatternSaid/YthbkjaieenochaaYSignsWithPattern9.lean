/- Texts of one chain, in build order. -/
import Derived.Test.YthbkjaieenochaaYSignsWithPattern8
import Derived.Laws.EntriesVeiled
import Derived.Deep.RegionLawGrows
namespace Go.Proofs.Ythbkjaieenochaa.L
open Go.RowKit Go.Proofs.Ythbkjaieenochaa Go.Proofs.Ythbkjaieenochaa.P Go.Proofs.YthbkjaieenochaaW.PrintWords Go.Proofs.YthbkjaieenochaaW.PrintLast Go.Proofs.YthbkjaieenochaaW.PrintMore
set_option linter.unusedVariables false

/-- A row that lies in the blocks from a to b alone. -/
structure OwnR (B a b : Nat) (w : World) (v : Value) (T : List Int) : Prop where
 s : Kd.R (Kd.int .i64) 3 w B (Itv a b) v T
 lo : B ≤ a
 hi : b ≤ w.heap.size
theorem OwnR.new {B : Nat} {w w' : World} {v : Value} {T : List Int} (h : Kd.R (Kd.int .i64) 3 w' w.heap.size (fun _ => True) v T) (hB : B ≤ w.heap.size) : OwnR B w.heap.size w'.heap.size w' v T :=
 ⟨Kd.R_lower (Kd.R_mono (Kd.R_bound h) (fun _ hk => ⟨hk.2.1, hk.2.2.1⟩)) hB, hB, Nat.le_refl _⟩
theorem OwnR.below {B a b : Nat} {w w' : World} {v : Value} {T : List Int} (h : OwnR B a b w v T) (hb : Below w.heap.size w w') : OwnR B a b w' v T :=
 ⟨Kd.R_kept h.s (Kept.of_below hb (fun _ => False)) (fun _ _ h => h), h.lo, Nat.le_trans h.hi hb.size⟩
theorem OwnR.kept {B a b c d : Nat} {w w' : World} {v : Value} {T : List Int} (h : OwnR B a b w v T) (hk : Kept w w' (Itv c d)) (hd : b ≤ c ∨ d ≤ a) : OwnR B a b w' v T :=
 ⟨Kd.R_kept h.s hk (fun k h1 h2 => by have := h1.1; have := h1.2; have := h2.1; have := h2.2; omega), h.lo, Nat.le_trans h.hi hk.1⟩
theorem OwnR.slice {B a b : Nat} {w : World} {v : Value} {T : List Int} (h : OwnR B a b w v T) : ∃ A c, v = .slice A T.length c ∧ T.length ≤ c := by
 obtain ⟨A, c, rfl⟩ := Kd.R_slice h.s
 exact ⟨A, c, rfl, (Kd.R_reads' h.s).2.1⟩
theorem OwnR.reads {B a b n c : Nat} {A : Option Addr} {w : World} {T : List Int} (h : OwnR B a b w (.slice A n c) T) : Kd.C (Kd.int .i64) w A T.length T := (Kd.R_reads' h.s).2.2
theorem OwnR.reads' {B a b n c m : Nat} {A : Option Addr} {w : World} {T : List Int} (h : OwnR B a b w (.slice A n c) T) (e : T.length = m) : Kd.C (Kd.int .i64) w A m T := e ▸ h.reads
/-- Marking. -/
theorem mark_ownR {B a b : Nat} {v : Value} {T : List Int} {W w : World} (hW : W.heap.size = B) (hB : Below B W w) (h : OwnR B a b w v T) (hf : T.length ≤ 1048576) :
  Calls Try.prog 20 #[v, .int .i64 1] w fun e w' => e = .returned (.int .i64 (1 + T.length : Nat)) ∧ OwnR B a b w' v (numR T.length 1) ∧ Below B W w' ∧ Kept w w' (Itv a b) := by
 subst hW
 obtain ⟨k, hk⟩ := (markIntS_ev T 1 (by omega)).rounds
 refine (laws_markIntS.calls k (Itv a b) v T (1 : Nat) _ _ W w hB h.s hk).mono ?_
 rintro e w' ⟨h1, h2, h3, h4⟩
 exact ⟨h1, ⟨Kd.R_flat (fun h => h) h2 (fun k hk _ => h.s.1 k hk), h.lo, Nat.le_trans h.hi h4.1⟩, h3, h4⟩
theorem eqIntS_ev (l : List Int) (hl : l.length ≤ 1048576) : Ev (fun k => laws_eqIntS.f k l l) true := by
 unfold laws_eqIntS.f
 exact Ev.ite_pos rfl (eqIntS_l0 l (by omega) l.length 0 (by omega))
end Go.Proofs.Ythbkjaieenochaa.L

namespace Go.Proofs.Ythbkjaieenochaa.Law
open Go.RowKit Go.Proofs.Ythbkjaieenochaa Go.Proofs.Ythbkjaieenochaa.P Go.Proofs.Ythbkjaieenochaa.L Go.Proofs.YthbkjaieenochaaW.PrintWords Go.Proofs.YthbkjaieenochaaW.PrintLast Go.Proofs.YthbkjaieenochaaW.PrintMore
set_option linter.unusedVariables false
set_option linter.unusedSimpArgs false

set_option maxHeartbeats 8000000 in
set_option maxRecDepth 100000 in
theorem walkSignsWithPattern (A : Option Addr) (cap : Nat) (l : List Int) (r : List (List (List Int))) (b : Bool) (W : World) (h : Kd.C (Kd.int .i64) W A l.length l) (hc : l.length ≤ cap) (hl : l.length ≤ 1048576) (hr : fewM r)
  (hspec : ∀ (W' : World) (A' : Option Addr) (c' : Nat), Kd.C (Kd.int .i64) W' A' l.length l → l.length ≤ c' → Calls Try.prog 28 #[.slice A' l.length c'] W' (RetC (Kd.slice 28 (Kd.slice 3 (Kd.int .i64))) W' r b))
  (himpl : ∀ (W' : World) (A' : Option Addr) (c' : Nat), Kd.C (Kd.int .i64) W' A' l.length l → l.length ≤ c' → Calls Try.prog 30 #[.slice A' l.length c'] W' (RetTM W' r b)) :
  Calls Try.prog 8 #[.slice A l.length cap] W fun e w' => e = .returned (.bool true) ∧ Below W.heap.size W w' := by
 have HC := Aside0.mk h
 have HLE := Aside0.mk hc
 have HSP := Aside0.mk hspec
 have HIM := Aside0.mk himpl
 have HB := Aside0.mk (Below.refl W.heap.size W)
 have hgt : ¬ (1048576 : Int) < (l.length : Int) := by omega
 obtain ⟨ke, hke⟩ := (eqIntS_ev l hl).rounds
 obtain ⟨kr, hkr⟩ := (eqIntSSS_ev r hr).rounds
 obtain ⟨kh, hkh⟩ := (heldIntSSS_ev r hr).rounds
 have HTO := Aside0.mk (fun W' hb => laws_toIntS.calls A cap l l W' (Kd.C_below h hb) hc (toIntS_eq l (by omega)))
 have HEL := Aside0.mk (fun W' A0 c0 A1 c1 h0 g0 h1 g1 => laws_eqIntS.calls ke A0 c0 l A1 c1 l true W' h0 g0 h1 g1 hke)
 have HER := Aside0.mk (fun W' A0 c0 A1 c1 h0 g0 h1 g1 => laws_eqIntSSS.calls kr A0 c0 r A1 c1 r true W' h0 g0 h1 g1 hkr)
 have HHE := Aside0.mk (fun W' A0 c0 h0 g0 => laws_heldIntSSS.calls kh A0 c0 (markM r 1) 1 (mTo r 1 r.length : Nat) W' h0 g0 hkh)
 have HMX := Aside0.mk (fun (a b : Nat) (v : Value) (w : World) (hB : Below W.heap.size W w) (ho : OwnR W.heap.size a b w v l) => mark_ownR rfl hB ho hl)
 have HMG := Aside0.mk (fun (a b : Nat) (v : Value) (w : World) (hB : Below W.heap.size W w) (ho : OwnM W.heap.size a b w v r) => mark_ownM rfl hB ho hr)
 have hnl : ¬ ((1 + l.length : Nat) : Int) < 0 := by omega
 have hnr : ¬ ((mTo r 1 r.length : Nat) : Int) < 0 := by omega
 have hml : (markM r 1).length = r.length := markMS_length _ _ _
 obtain ⟨nl, hnle⟩ : ∃ n, n = 1 + l.length := ⟨_, rfl⟩
 obtain ⟨nr, hnre⟩ : ∃ n, n = mTo r 1 r.length := ⟨_, rfl⟩
 rw [← hnle] at HMX hnl
 rw [← hnre] at HMG HHE hnr
 rw [hml] at HHE
 obtain ⟨mr, hmr⟩ : ∃ m, m = markM r 1 := ⟨_, rfl⟩
 rw [← hmr] at HMG HHE hml
 have HML := Aside0.mk hml
 clear h hc hl hr hspec himpl hke hkr hkh hnle hnre hmr hml
 go_enter Try.func8, Try.ntmps8
 go_wp2_with (first
  | (go_at_call 29; refine (HTO.out _ HB.out).mono ?_; rintro e w1 ⟨v, rfl, hS, hb⟩; have ho := OwnR.new hS HB.out.size; clear hS; obtain ⟨Av, cv, rfl, hcv⟩ := ho.slice; (try clear HT HTc); (try clear HDT); (try have HDT := Aside0.mk HW.out.hi); (try (have n_ := Aside0.mk (HW.out.below hb); clear HW; have HW := n_)); (try (have n_ := Aside0.mk (HX.out.below hb); clear HX; have HX := n_)); (try (have n_ := Aside0.mk (HG.out.below hb); clear HG; have HG := n_)); (try (have n_ := Aside0.mk (HT.out.below hb); clear HT; have HT := n_)); (try (have n_ := Aside0.mk (HG1.out.below hb); clear HG1; have HG1 := n_)); (have n_ := Aside0.mk (below_step HB.out hb)); clear HB; have HB := n_; clear hb; have HT := Aside0.mk ho; have HTc := Aside0.mk hcv; clear ho hcv)
  | (go_at_call 28; refine (HSP.out _ _ _ HT.out.reads HTc.out).mono ?_; rintro e w1 ⟨Aw, cw, rfl, hcw, hC, hb⟩; clear HT HTc; (try (have n_ := Aside0.mk (HW.out.below hb); clear HW; have HW := n_)); (try (have n_ := Aside0.mk (HX.out.below hb); clear HX; have HX := n_)); (try (have n_ := Aside0.mk (HG.out.below hb); clear HG; have HG := n_)); (try (have n_ := Aside0.mk (HT.out.below hb); clear HT; have HT := n_)); (try (have n_ := Aside0.mk (HG1.out.below hb); clear HG1; have HG1 := n_)); (have n_ := Aside0.mk (below_step HB.out hb)); clear HB; have HB := n_; have HW := Aside0.mk (Old.new heap_M hC); have HWc := Aside0.mk hcw; clear hb hC hcw)
  | (go_at_call 30; have hg_ := HG; clear hg_; refine (HIM.out _ _ _ HT.out.reads HTc.out).mono ?_; rintro e w1 ⟨v, rfl, hS, hb⟩; have ho := OwnM.new hS HB.out.size; clear hS; obtain ⟨Ah, ch, rfl, hch⟩ := ho.slice; clear HT HTc; (try (have n_ := Aside0.mk (HW.out.below hb); clear HW; have HW := n_)); (try (have n_ := Aside0.mk (HX.out.below hb); clear HX; have HX := n_)); (try (have n_ := Aside0.mk (HG.out.below hb); clear HG; have HG := n_)); (try (have n_ := Aside0.mk (HT.out.below hb); clear HT; have HT := n_)); (try (have n_ := Aside0.mk (HG1.out.below hb); clear HG1; have HG1 := n_)); (have n_ := Aside0.mk (below_step HB.out hb)); clear HB; have HB := n_; clear hb; have HG1 := Aside0.mk ho; have HG1c := Aside0.mk hch; clear ho hch)
  | (go_at_call 30; refine (HIM.out _ _ _ HT.out.reads HTc.out).mono ?_; rintro e w1 ⟨v, rfl, hS, hb⟩; have ho := OwnM.new hS HB.out.size; clear hS; obtain ⟨Ag, cg, rfl, hcg⟩ := ho.slice; have HD12 := HDT; have HD23 := Aside0.mk HT.out.hi; have HD13 := Aside0.mk HW.out.hi; clear HDT; have HX := HT; have HXc := HTc; clear HT HTc; (try (have n_ := Aside0.mk (HW.out.below hb); clear HW; have HW := n_)); (try (have n_ := Aside0.mk (HX.out.below hb); clear HX; have HX := n_)); (try (have n_ := Aside0.mk (HG.out.below hb); clear HG; have HG := n_)); (try (have n_ := Aside0.mk (HT.out.below hb); clear HT; have HT := n_)); (try (have n_ := Aside0.mk (HG1.out.below hb); clear HG1; have HG1 := n_)); (have n_ := Aside0.mk (below_step HB.out hb)); clear HB; have HB := n_; clear hb; have HG := Aside0.mk ho; have HGc := Aside0.mk hcg; clear ho hcg)
  | (go_at_call 31; (first | (with_reducible refine (HER.out _ _ _ _ _ HG.out.reads HGc.out HW.out.reads HWc.out).mono ?_) | (with_reducible refine (HER.out _ _ _ _ _ HG1.out.reads HG1c.out HW.out.reads HWc.out).mono ?_)); rintro e w1 ⟨rfl, hd⟩; have hb := hd.below; clear hd; (try (have n_ := Aside0.mk (HW.out.below hb); clear HW; have HW := n_)); (try (have n_ := Aside0.mk (HX.out.below hb); clear HX; have HX := n_)); (try (have n_ := Aside0.mk (HG.out.below hb); clear HG; have HG := n_)); (try (have n_ := Aside0.mk (HT.out.below hb); clear HT; have HT := n_)); (try (have n_ := Aside0.mk (HG1.out.below hb); clear HG1; have HG1 := n_)); (have n_ := Aside0.mk (below_step HB.out hb)); clear HB; have HB := n_; clear hb)
  | (go_at_call 19; (with_reducible refine (HEL.out _ _ _ _ _ HX.out.reads HXc.out HT.out.reads HTc.out).mono ?_); rintro e w1 ⟨rfl, hd⟩; have hb := hd.below; clear hd; (try (have n_ := Aside0.mk (HW.out.below hb); clear HW; have HW := n_)); (try (have n_ := Aside0.mk (HX.out.below hb); clear HX; have HX := n_)); (try (have n_ := Aside0.mk (HG.out.below hb); clear HG; have HG := n_)); (try (have n_ := Aside0.mk (HT.out.below hb); clear HT; have HT := n_)); (try (have n_ := Aside0.mk (HG1.out.below hb); clear HG1; have HG1 := n_)); (have n_ := Aside0.mk (below_step HB.out hb)); clear HB; have HB := n_; clear hb)
  | (go_at_call 20; (with_reducible refine (HMX.out _ _ _ _ HB.out HX.out).mono ?_); rintro e w1 ⟨rfl, ho, hb, hk⟩; have n1_ := Aside0.mk (HW.out.kept hk HD12.out); have n2_ := Aside0.mk (HG.out.kept hk (.inr HD23.out)); clear HW HG HX HXc HB ho hk HT HTc HEL; have HW := n1_; have HG := n2_; have HB := Aside0.mk hb; clear n1_ n2_ hb)
  | (go_at_call 32; (with_reducible refine (HMG.out _ _ _ _ HB.out HG.out).mono ?_); rintro e w1 ⟨rfl, ho, hb, hk⟩; have n1_ := Aside0.mk (HW.out.kept hk HD13.out); clear HW HG HB hk; have HW := n1_; have HG := Aside0.mk ho; have HB := Aside0.mk hb; clear n1_ hb ho)
  | (go_at_call 33; (with_reducible refine (HHE.out _ _ _ (HG.out.reads' HML.out) HGc.out).mono ?_); rintro e w1 ⟨rfl, hd⟩; have hb := hd.below; clear hd; (try (have n_ := Aside0.mk (HW.out.below hb); clear HW; have HW := n_)); (try (have n_ := Aside0.mk (HX.out.below hb); clear HX; have HX := n_)); (try (have n_ := Aside0.mk (HG.out.below hb); clear HG; have HG := n_)); (try (have n_ := Aside0.mk (HT.out.below hb); clear HT; have HT := n_)); (try (have n_ := Aside0.mk (HG1.out.below hb); clear HG1; have HG1 := n_)); (have n_ := Aside0.mk (below_step HB.out hb)); clear HB; have HB := n_; clear hb))
 go_ret
 exact ⟨rfl, HB.out⟩
theorem skipSignsWithPattern (A : Option Addr) (cap : Nat) (l : List Int) (W : World) (hl : ¬ l.length ≤ 1048576) :
  Calls Try.prog 8 #[.slice A l.length cap] W fun e w' => e = .returned (.bool true) ∧ Below W.heap.size W w' := by
 have hgt : (1048576 : Int) < (l.length : Int) := by omega
 go_enter Try.func8, Try.ntmps8
 go_wp2
 go_ret
 exact ⟨rfl, Below.refl _ _⟩
end Go.Proofs.Ythbkjaieenochaa.Law

namespace Go.Proofs.Ythbkjaieenochaa
open Go.RowKit Go.Proofs.YthbkjaieenochaaW.PrintWords Go.Proofs.YthbkjaieenochaaW.PrintLast Go.Proofs.YthbkjaieenochaaW.PrintMore
set_option linter.unusedVariables false
set_option linter.unusedSimpArgs false
theorem i64_of (x : Int) (h0 : -9223372036854775808 ≤ x) (h1 : x ≤ 9223372036854775807) : IntKind.i64.wrap x = x := IntWalk.i64_in _ ⟨h0, h1⟩
theorem blk_new_at {w : World} {o : Obj} {g : Nat} (h : g = w.heap.size) : (w.alloc o).heap[g]? = some o := h ▸ blk_new w o
theorem S_empty {α : Type} {d : Kd α} {e : Nat} {W : World} {B g : Nat} {ok : Nat → Prop} (h : W.heap[g]? = some (.cells #[] e (0, 0))) (hB : B ≤ g) (hok : ok g) : Kd.S d e W B ok (.slice (some ⟨g, 0, none⟩) 0 0) [] := by
 refine ⟨fun _ => 0, fun k hk => ?_, [], ⟨by simp, .inr ⟨g, 0, #[], rfl, hB, h, Nat.le_refl _, by unfold maxLen; omega, by simp, by simp⟩⟩, Reps.none _ _⟩
 have : g = k := by simpa [Value.ownBlock] using hk
 exact this ▸ hok
end Go.Proofs.Ythbkjaieenochaa
namespace Go.Proofs.Ythbkjaieenochaa
open Go.RowKit Go.Proofs.YthbkjaieenochaaW.PrintWords Go.Proofs.YthbkjaieenochaaW.PrintLast Go.Proofs.YthbkjaieenochaaW.PrintMore
set_option linter.unusedVariables false
set_option linter.unusedSimpArgs false
/-- A row of rows of the call's own, the rows only read. -/
structure RawN (W : World) (B : Nat) (ok : Nat → Prop) (g cap : Nat) (us : List Value) (l : List (List Int)) : Prop where
 len : us.length = l.length
 le : l.length ≤ cap
 max : cap ≤ maxLen
 ge : B ≤ g
 okg : ok g
 top : ∃ cur : Array Value, W.heap[g]? = some (.cells cur 28 (0, 0)) ∧ cur.size = cap ∧ cur.toList.take l.length = us
 each : ∀ (j : Nat) (x : List Int) (u : Value), l[j]? = some x → us[j]? = some u → Kd.FK (Kd.slice 3 (Kd.int .i64)) W (fun k => ok k ∧ k ≠ g) x [u]
theorem RawN.N {W : World} {B : Nat} {ok : Nat → Prop} {g cap : Nat} {us : List Value} {l : List (List Int)} (h : RawN W B ok g cap us l) : Kd.N (Kd.slice 3 (Kd.int .i64)) 28 W B ok (.slice (some ⟨g, 0, none⟩) l.length cap) l := by
 obtain ⟨cur, hh, hsz, htk⟩ := h.top
 have hsz1 : (Kd.raw (Kd.slice 3 (Kd.int .i64)).sz).sz = 1 := rfl
 have hlr : (us.map fun u => [u]).length = l.length := by rw [List.length_map, h.len]
 refine ⟨fun k hk => ?_, us.map fun u => [u], hlr, ⟨fun k hk => hk.symm, us, ?_, ?_⟩, ?_⟩
 ·have : g = k := by simpa [Value.ownBlock] using hk
  exact this ▸ h.okg
 ·rw [hlr]
  exact ⟨by rw [hsz1, Nat.mul_one]; exact h.len, .inr ⟨g, cap, cur, rfl, h.ge, hh, h.le, h.max, by rw [hsz1, Nat.mul_one]; exact hsz, by rw [hsz1, Nat.mul_one]; exact htk⟩⟩
 ·refine ⟨by rw [hsz1, Nat.mul_one, List.length_map], fun j c hj => ?_⟩
  rw [List.getElem?_map] at hj
  obtain ⟨u, hu, rfl⟩ := Option.map_eq_some_iff.1 hj
  have hju : j < us.length := (List.getElem?_eq_some_iff.1 hu).1
  have hjl : j < l.length := by rw [← h.len]; exact hju
  rw [hsz1, Nat.mul_one, List.drop_eq_getElem_cons hju, List.take_succ_cons, List.take_zero, (List.getElem?_eq_some_iff.1 hu).2]
  exact ⟨rfl, rfl, (Kd.slice 3 (Kd.int .i64)).K_one (Kd.FK_now (h.each j l[j] u (List.getElem?_eq_getElem hjl) hu))⟩
 ·intro j x c hx hc
  rw [List.getElem?_map] at hc
  obtain ⟨u, hu, rfl⟩ := Option.map_eq_some_iff.1 hc
  exact Kd.FK_mono (h.each j x u hx hu) (fun k hk => ⟨hk.1, fun e => hk.2 (by simpa [Value.ownBlock] using e)⟩)
end Go.Proofs.Ythbkjaieenochaa
namespace Go.Proofs.Ythbkjaieenochaa
open Go.RowKit Go.Proofs.YthbkjaieenochaaW.PrintWords Go.Proofs.YthbkjaieenochaaW.PrintLast Go.Proofs.YthbkjaieenochaaW.PrintMore
set_option linter.unusedVariables false
set_option linter.unusedSimpArgs false
/-- The cells of a row that is read. -/
theorem C_cells {W : World} {A : Option Addr} {l : List (List Int)} (h : Kd.C (Kd.slice 3 (Kd.int .i64)) W A l.length l) : ∃ us : List Value, us.length = l.length ∧ Kd.C (Kd.raw 1) W A us.length (us.map fun u => [u]) ∧ (∀ u ∈ us, u.oneCell' = true) ∧ ∀ ad, A = some ad → ∀ j u, us[j]? = some u → W.cell? (ad.add j) = some u := by
 rcases Nat.eq_zero_or_pos l.length with h0 | h0
 ·exact ⟨[], by simp [h0], ⟨rfl, by simp, fun h => absurd h (Nat.lt_irrefl 0)⟩, by simp, by simp⟩
 ·obtain ⟨hl, hm, hn⟩ := h
  obtain ⟨ad, rfl, hc⟩ := hn h0
  have hx : ∀ j, j < l.length → ∃ u : Value, u.oneCell' = true ∧ W.cell? (ad.add j) = some u := fun j hj => by
   obtain ⟨c, hcs, hK, hcell⟩ := hc j l[j] (List.getElem?_eq_getElem hj)
   have hcl : c.length = 1 := hcs
   obtain ⟨u, rfl⟩ := List.length_eq_one_iff.1 hcl
   have := hcell 0 u rfl
   have hsz : (Kd.slice 3 (Kd.int .i64)).sz = 1 := rfl
   rw [hsz, Nat.mul_one, Nat.add_zero] at this
   exact ⟨u, (Kd.slice 3 (Kd.int .i64)).K_one hK u (List.mem_singleton.2 rfl), this⟩
  refine ⟨(List.range l.length).map fun j => (W.cell? (ad.add j)).getD (.bool false), by simp, ?_, ?_, ?_⟩
  ·refine ⟨by simp, by simpa using hm, fun _ => ⟨ad, rfl, fun j p hj => ?_⟩⟩
   rw [List.getElem?_map, List.getElem?_map] at hj
   have hj2 : j < l.length := by
    rcases Nat.lt_or_ge j l.length with h | h
    ·exact h
    ·rw [List.getElem?_eq_none (by simpa using h)] at hj; simp at hj
   rw [List.getElem?_range hj2] at hj
   obtain ⟨u, h1, h2⟩ := hx j hj2
   simp only [Option.map_some, Option.some.injEq, h2, Option.getD_some] at hj
   subst hj
   refine ⟨[u], rfl, ⟨rfl, rfl, fun q hq => by rw [List.mem_singleton.1 hq]; exact h1⟩, fun i q hq => ?_⟩
   rcases i with _ | i
   ·simp only [List.getElem?_cons_zero, Option.some.injEq] at hq
    subst hq
    rw [Nat.add_zero, show (Kd.raw 1).sz = 1 from rfl, Nat.mul_one]; exact h2
   ·simp at hq
  ·intro u hu
   obtain ⟨j, hj, rfl⟩ := List.mem_map.1 hu
   obtain ⟨u, h1, h2⟩ := hx j (List.mem_range.1 hj)
   rw [h2]; exact h1
  ·intro ad' e j u hu
   injection e with e
   subst e
   rw [List.getElem?_map] at hu
   have hj2 : j < l.length := by
    rcases Nat.lt_or_ge j l.length with h | h
    ·exact h
    ·rw [List.getElem?_eq_none (by simpa using h)] at hu; simp at hu
   rw [List.getElem?_range hj2] at hu
   obtain ⟨u', h1, h2⟩ := hx j hj2
   simp only [Option.map_some, Option.some.injEq, h2, Option.getD_some] at hu
   exact hu ▸ h2
theorem info_rowsU : (Try.prog.info? 28).map (fun i => (i.zero, i.size, i.bytes)) = some (some (.slice none 0 0), 1, 24) := by kernel_rfl
end Go.Proofs.Ythbkjaieenochaa
namespace Go.Proofs.Ythbkjaieenochaa
open Go.RowKit Go.Proofs.YthbkjaieenochaaW.PrintWords Go.Proofs.YthbkjaieenochaaW.PrintLast Go.Proofs.YthbkjaieenochaaW.PrintMore
set_option linter.unusedVariables false
set_option linter.unusedSimpArgs false
/-- Blocks that stay as they are. -/
def frD (W : World) (bo : Nat) (v : Value) : Nat → Prop := fun k => (k ≠ bo ∧ some k ≠ v.ownBlock) ∧ k < W.heap.size
/-- What is written. -/
def tD (bo : Nat) (v : Value) : Nat → Prop := fun k => k = bo ∨ some k = v.ownBlock
theorem frD_step {W W' : World} {bo : Nat} {v v' : Value} (ht : Touch W W' (tD bo v)) (hv : ∀ k, some k = v'.ownBlock → some k = v.ownBlock ∨ W.heap.size ≤ k) : ∀ k, frD W bo v k → frD W' bo v' k :=
 fun k hk => ⟨⟨hk.1.1, fun e => (hv k e).elim hk.1.2 (fun h => by have := hk.2; omega)⟩, Nat.lt_of_lt_of_le hk.2 ht.size⟩
def okD (bo ba bl : Nat) : Nat → Prop := fun k => k ≠ bo ∧ k ≠ ba ∧ k ≠ bl
/-- A row appended to a cut of rows that are only read. -/
theorem app1_F {w w1 w9 : World} {ok : Nat → Prop} {A Ar : Option Addr} {cr : Nat} {rows : List (List Int)} {row : List Int} {us : List Value} {v9 : Value} (hF : Kd.F (Kd.slice 3 (Kd.int .i64)) w ok A rows.length rows) (hul : us.length = rows.length) (hus : ∀ ad, A = some ad → ∀ j u, us[j]? = some u → w.cell? (ad.add j) = some u)
  (hrow : Kd.F (Kd.int .i64) w ok Ar row.length row) (hcr : row.length ≤ cr) (hb : Below w.heap.size w w1) (how : w9.ownsRow w1.heap.size 28 1 v9 (rows.length + 1) (us ++ [.slice Ar row.length cr])) (hg : w1.grownBy w9 none) :
  ∃ A9 c9, v9 = .slice A9 (rows ++ [row]).length c9 ∧ (rows ++ [row]).length ≤ c9 ∧ Kd.F (Kd.slice 3 (Kd.int .i64)) w9 (fun k => ok k ∨ w.heap.size ≤ k) A9 (rows ++ [row]).length (rows ++ [row]) ∧ Below w1.heap.size w1 w9 := by
 have hb9 : Below w1.heap.size w1 w9 := ⟨hg.os, hg.tape, hg.output, hg.size, fun k hk => hg.block k hk (by simp)⟩
 have hbw : Below w.heap.size w w9 := hb.trans (hb9.mono hb.size)
 have hlr : (rows ++ [row]).length = rows.length + 1 := by simp
 obtain ⟨hl, hc⟩ := how
 rcases hc with ⟨_, h0⟩ | ⟨g, cap, cur, rfl, hgB, hh, hle, hmx, hsz, htk⟩
 ·omega
 ·rw [Nat.mul_one] at hsz htk
  have hR : RawN w9 w1.heap.size (fun k => ok k ∨ w.heap.size ≤ k) g cap (us ++ [.slice Ar row.length cr]) (rows ++ [row]) := by
   refine ⟨by simp [hul], by omega, hmx, hgB, .inr (Nat.le_trans hb.size hgB), ⟨cur, hh, hsz, by rw [hlr]; exact htk⟩, fun j x u hx hu => ?_⟩
   rcases Nat.lt_or_ge j rows.length with hj | hj
   ·rw [List.getElem?_append_left hj] at hx
    rw [List.getElem?_append_left (by omega)] at hu
    obtain ⟨ad, c, hA, hcl, hFK, hcell, _⟩ := Kd.F_get hF ([] : List Int) (j : Int) (by omega) (by omega)
    have hcl1 : c.length = 1 := hcl
    obtain ⟨q, rfl⟩ := List.length_eq_one_iff.1 hcl1
    have h1 := hcell 0 q rfl
    rw [Int.toNat_natCast, show (Kd.slice 3 (Kd.int .i64)).sz = 1 from rfl, Nat.mul_one, Nat.add_zero, hus ad hA j u hu] at h1
    obtain rfl := Option.some.inj h1
    rw [Int.toNat_natCast, List.getD_eq_getElem?_getD, hx] at hFK
    exact Kd.FK_mono (Kd.FK_below (Foot.bound hFK) hbw) (fun k hk => ⟨.inl hk.1, by have := hk.2; have := hb.size; omega⟩)
   ·have hje : j = rows.length := by
     have := (List.getElem?_eq_some_iff.1 hx).1
     rw [hlr] at this; omega
    subst hje
    rw [List.getElem?_append_right (Nat.le_refl _), Nat.sub_self] at hx
    rw [List.getElem?_append_right (by omega), hul, Nat.sub_self] at hu
    simp only [List.getElem?_cons_zero, Option.some.injEq] at hx hu
    subst hx hu
    exact Kd.FK_mono (Kd.FK_below (Foot.bound (Kd.FK_slice_mk hcr hrow)) hbw) (fun k hk => ⟨.inl hk.1, by have := hk.2; have := hb.size; omega⟩)
  have hN := hR.N
  exact ⟨_, cap, by rw [hlr], by omega, Kd.N_F hN, hb9⟩
end Go.Proofs.Ythbkjaieenochaa
namespace Go.Proofs.Ythbkjaieenochaa.L
open Go.RowKit Go.Proofs.Ythbkjaieenochaa Go.Proofs.YthbkjaieenochaaW.PrintWords Go.Proofs.YthbkjaieenochaaW.PrintLast Go.Proofs.YthbkjaieenochaaW.PrintMore
set_option linter.unusedVariables false
set_option linter.unusedSimpArgs false
/-- A row added to the sums of the columns. -/
def addR (s r : List Int) (j : Nat) : List Int := (List.range j).foldl (fun s j => s.set j (wrap64 (rd s j + rd r j))) s
theorem addR_succ (s r : List Int) (j : Nat) : addR s r (j + 1) = (addR s r j).set j (wrap64 (rd (addR s r j) j + rd r j)) := by
 unfold addR
 rw [List.range_succ, List.foldl_append]
 rfl
theorem addR_length (s r : List Int) : ∀ j, (addR s r j).length = s.length
 | 0 => rfl
 | j + 1 => by rw [addR_succ, List.length_set, addR_length s r j]
end Go.Proofs.Ythbkjaieenochaa.L
namespace Go.Proofs.Ythbkjaieenochaa.P
end Go.Proofs.Ythbkjaieenochaa.P
namespace Go.Proofs.Ythbkjaieenochaa.L
end Go.Proofs.Ythbkjaieenochaa.L
