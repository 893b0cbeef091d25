/- Texts of one chain, in build order. -/
import Derived.Test.YthlgclfhoeakgaaYLeastOfOrbit4
namespace Go.Proofs.Ythlgclfhoeakgaa.L
open Go.RowKit Go.Proofs.Ythlgclfhoeakgaa Go.Proofs.Ythlgclfhoeakgaa.P Go.Proofs.YthlgclfhoeakgaaW.PrintWords Go.Proofs.YthlgclfhoeakgaaW.PrintLast Go.Proofs.YthlgclfhoeakgaaW.PrintMore
set_option linter.unusedVariables false

/-- A row as an element, its own elements apart. -/
def apart {α : Type} (e : Nat) (d : Kd α) : Kd (List α) where
 sz := 1
 E := e :: d.E
 K := (Kd.slice e d).K
 M := fun w base ok xs cs => ∃ v, cs = [v] ∧ Kd.S d e w base ok v xs
 K_len := fun h => (Kd.slice e d).K_len h
 K_one := fun h => (Kd.slice e d).K_one h
 K_below := fun hb h => (Kd.slice e d).K_below hb h
 K_of_M := by
  rintro w base ok x cs ⟨v, rfl, h⟩
  exact (Kd.slice e d).K_of_M ⟨v, rfl, Kd.S_R h⟩
 M_mono := by
  rintro w base ok ok' x cs hok ⟨v, rfl, h⟩
  exact ⟨v, rfl, Kd.S_mono h hok⟩
 M_bound := by
  rintro w base ok x cs ⟨v, rfl, h⟩
  exact ⟨v, rfl, Kd.S_bound h⟩
 M_move := by
  rintro w w1 base ok x cs hm ⟨v, rfl, h⟩
  exact ⟨v, rfl, Kd.S_move h hm⟩
 M_lower := by
  rintro w base base' ok x cs hb ⟨v, rfl, h⟩
  exact ⟨v, rfl, Kd.S_lower h hb⟩
/-- Tables whose rows are apart, as elements. -/
def tabK : Kd (List (List Int)) := apart 34 (Kd.slice 3 (Kd.int .i64))
theorem tab_C {w : World} {A : Option Addr} {n : Nat} {L : List (List (List Int))} (h : tabK.C w A n L) : Kd.C (Kd.slice 34 (Kd.slice 3 (Kd.int .i64))) w A n L := Kd.C_imp (d := tabK) (d' := Kd.slice 34 (Kd.slice 3 (Kd.int .i64))) rfl (fun _ _ _ h => h) h

end Go.Proofs.Ythlgclfhoeakgaa.L

namespace Go.Proofs.Ythlgclfhoeakgaa.L
open Go.RowKit Go.Proofs.Ythlgclfhoeakgaa Go.Proofs.Ythlgclfhoeakgaa.P Go.Proofs.YthlgclfhoeakgaaW.PrintWords Go.Proofs.YthlgclfhoeakgaaW.PrintLast Go.Proofs.YthlgclfhoeakgaaW.PrintMore
set_option linter.unusedVariables false

/-- A list of tables that lies in the blocks from a to b alone. -/
structure OwnM (B a b : Nat) (w : World) (v : Value) (T : List (List (List Int))) : Prop where
 s : Kd.S tabK 22 w B (Itv a b) v T
 lo : B ≤ a
 hi : b ≤ w.heap.size
theorem OwnM.new {B : Nat} {w w' : World} {v : Value} {T : List (List (List Int))} (h : Kd.S tabK 22 w' w.heap.size (fun _ => True) v T) (hB : B ≤ w.heap.size) : OwnM B w.heap.size w'.heap.size w' v T :=
 ⟨Kd.S_lower (Kd.S_mono (Kd.S_bound h) (fun _ hk => ⟨hk.2.1, hk.2.2.1⟩)) hB, hB, Nat.le_refl _⟩
theorem OwnM.below {B a b : Nat} {w w' : World} {v : Value} {T : List (List (List Int))} (h : OwnM B a b w v T) (hb : Below w.heap.size w w') : OwnM B a b w' v T :=
 ⟨Kd.S_kept h.s (Kept.of_below hb (fun _ => False)) (fun _ _ h => h), h.lo, Nat.le_trans h.hi hb.size⟩
theorem OwnM.kept {B a b c d : Nat} {w w' : World} {v : Value} {T : List (List (List Int))} (h : OwnM B a b w v T) (hk : Kept w w' (Itv c d)) (hd : b ≤ c ∨ d ≤ a) : OwnM B a b w' v T :=
 ⟨Kd.S_kept h.s hk (fun k h1 h2 => by have := h1.1; have := h1.2; have := h2.1; have := h2.2; omega), h.lo, Nat.le_trans h.hi hk.1⟩
theorem OwnM.slice {B a b : Nat} {w : World} {v : Value} {T : List (List (List Int))} (h : OwnM B a b w v T) : ∃ A c, v = .slice A T.length c ∧ T.length ≤ c := by
 obtain ⟨A, c, rfl⟩ := Kd.R_slice (Kd.S_R h.s)
 exact ⟨A, c, rfl, (Kd.R_reads' (Kd.S_R h.s)).2.1⟩
theorem OwnM.reads {B a b n c : Nat} {A : Option Addr} {w : World} {T : List (List (List Int))} (h : OwnM B a b w (.slice A n c) T) : Kd.C (Kd.slice 34 (Kd.slice 3 (Kd.int .i64))) w A T.length T := tab_C (Kd.R_reads' (Kd.S_R h.s)).2.2
theorem OwnM.reads' {B a b n c m : Nat} {A : Option Addr} {w : World} {T : List (List (List Int))} (h : OwnM B a b w (.slice A n c) T) (e : T.length = m) : Kd.C (Kd.slice 34 (Kd.slice 3 (Kd.int .i64))) w A m T := e ▸ h.reads
/-- What is only read, and is elder than N. -/
structure Old {α : Type} (d : Kd α) (N : Nat) (w : World) (A : Option Addr) (T : List α) : Prop where
 f : Kd.F d w (fun k => k < N) A T.length T
 hi : N ≤ w.heap.size
theorem Old.new {α : Type} {d : Kd α} (hd : Kd.Heap d) {w : World} {A : Option Addr} {T : List α} (h : d.C w A T.length T) : Old d w.heap.size w A T := ⟨Kd.C_F hd h, Nat.le_refl _⟩
theorem Old.below {α : Type} {d : Kd α} {N : Nat} {w w' : World} {A : Option Addr} {T : List α} (h : Old d N w A T) (hb : Below w.heap.size w w') : Old d N w' A T := ⟨Kd.F_below h.f hb, Nat.le_trans h.hi hb.size⟩
theorem Old.kept {α : Type} {d : Kd α} {N a b : Nat} {w w' : World} {A : Option Addr} {T : List α} (h : Old d N w A T) (hk : Kept w w' (Itv a b)) (ha : N ≤ a) : Old d N w' A T := ⟨Kd.F_kept h.f hk (fun k hk h2 => by have := h2.1; omega), Nat.le_trans h.hi hk.1⟩
theorem Old.reads {α : Type} {d : Kd α} {N : Nat} {w : World} {A : Option Addr} {T : List α} (h : Old d N w A T) : d.C w A T.length T := Kd.F_now h.f
theorem heap_T : Kd.Heap (Kd.slice 3 (Kd.int .i64)) := Kd.heap_slice _ (Kd.heap_int _)
/-- A value that is only read comes back, and whether it counts. -/
def RetC {α : Type} (d : Kd α) (w : World) (T : List α) (b : Bool) (e : Ending) (w' : World) : Prop := ∃ A c, e = .returned (.tuple #[.slice A T.length c, .bool b]) ∧ T.length ≤ c ∧ d.C w' A T.length T ∧ Below w.heap.size w w'
/-- A list of tables of the call's own comes back, and whether it counts. -/
def RetTM (w : World) (T : List (List (List Int))) (b : Bool) (e : Ending) (w' : World) : Prop := ∃ v0_ : Value, e = .returned (.tuple #[v0_, .bool b]) ∧ Kd.S tabK 22 w' w.heap.size (fun _ => True) v0_ T ∧ Below w.heap.size w w'
def RetTT (w : World) (T : List (List Int)) (b : Bool) (e : Ending) (w' : World) : Prop := ∃ v0_ : Value, e = .returned (.tuple #[v0_, .bool b]) ∧ Kd.S (Kd.slice 3 (Kd.int .i64)) 34 w' w.heap.size (fun _ => True) v0_ T ∧ Below w.heap.size w w'
end Go.Proofs.Ythlgclfhoeakgaa.L

namespace Go.Proofs.Ythlgclfhoeakgaa.Law
open Go.RowKit Go.Proofs.Ythlgclfhoeakgaa Go.Proofs.Ythlgclfhoeakgaa.P Go.Proofs.Ythlgclfhoeakgaa.L Go.Proofs.YthlgclfhoeakgaaW.PrintWords Go.Proofs.YthlgclfhoeakgaaW.PrintLast Go.Proofs.YthlgclfhoeakgaaW.PrintMore
set_option linter.unusedVariables false
set_option linter.unusedSimpArgs false

set_option maxHeartbeats 8000000 in
set_option maxRecDepth 100000 in
theorem walkLeastOfOrbit (A : Option Addr) (cap : Nat) (l : List (List Int)) (r : List (List Int)) (b : Bool) (W : World) (h : RowsIn W A l.length cap l) (hl : fewRows l) (hr : fewRows r) (t : Int) (ht : ¬ t < 0) (k0 : Nat) (hsz : laws_szIntSS.f k0 l 1048576 = some t)
  (hspec : ∀ (W' : World) (A' : Option Addr) (c' : Nat), Kd.C (Kd.slice 3 (Kd.int .i64)) W' A' l.length l → l.length ≤ c' → Calls Try.prog 8 #[.slice A' l.length c'] W' (RetC (Kd.slice 3 (Kd.int .i64)) W' r b))
  (himpl : ∀ (W' : World) (A' : Option Addr) (c' : Nat), Kd.C (Kd.slice 3 (Kd.int .i64)) W' A' l.length l → l.length ≤ c' → Calls Try.prog 10 #[.slice A' l.length c'] W' (RetTT W' r b)) :
  Calls Try.prog 3 #[.slice A l.length cap] W fun e w' => e = .returned (.bool true) ∧ Below W.heap.size W w' := by
 have HC := Aside0.mk h.read
 have HLE := Aside0.mk h.le
 have HFL := Aside0.mk hl
 have HFR := Aside0.mk hr
 have HSP := Aside0.mk hspec
 have HIM := Aside0.mk himpl
 have HB := Aside0.mk (Below.refl W.heap.size W)
 have htd : decide (t < 0) = false := decide_eq_false ht
 obtain ⟨ke, hke⟩ := (eqIntSS l hl.ok).rounds
 obtain ⟨kr, hkr⟩ := (eqIntSS r hr.ok).rounds
 obtain ⟨kh, hkh⟩ := (heldIntSS_ev r 1 (by have := hr.1; omega) (few_n hr)).rounds
 have HSZ := Aside0.mk (fun W' hb => laws_szIntSS.calls k0 A cap l 1048576 t W' (Kd.C_below h.read hb) h.le hsz)
 have HTO := Aside0.mk (fun W' hb => laws_toIntSS.calls A cap l l W' (Kd.C_below h.read hb) h.le (toIntSS_eq l hl.ok))
 have HEL := Aside0.mk (fun W' A0 c0 A1 c1 h0 g0 h1 g1 => laws_eqIntSS.calls ke A0 c0 l A1 c1 l true W' h0 g0 h1 g1 hke)
 have HER := Aside0.mk (fun W' A0 c0 A1 c1 h0 g0 h1 g1 => laws_eqIntSS.calls kr A0 c0 r A1 c1 r true W' h0 g0 h1 g1 hkr)
 have HHE := Aside0.mk (fun W' A0 c0 h0 g0 => laws_heldIntSS.calls kh A0 c0 (markT r 1) 1 ((nTo r 1 r.length) : Nat) W' h0 g0 hkh)
 have HMX := Aside0.mk (fun (a b : Nat) (v : Value) (w : World) (hB : Below W.heap.size W w) (ho : Own W.heap.size a b w v l) => mark_own rfl hB ho hl)
 have HMG := Aside0.mk (fun (a b : Nat) (v : Value) (w : World) (hB : Below W.heap.size W w) (ho : Own W.heap.size a b w v r) => mark_own rfl hB ho hr)
 have hnl : ¬ ((nTo l 1 l.length : Nat) : Int) < 0 := by omega
 have hnr : ¬ (((nTo r 1 r.length) : Nat) : Int) < 0 := by omega
 have hml : (markT r 1).length = r.length := markS_length _ _ _
 obtain ⟨nl, hnle⟩ : ∃ n, n = nTo l 1 l.length := ⟨_, rfl⟩
 obtain ⟨nr, hnre⟩ : ∃ n, n = (nTo r 1 r.length) := ⟨_, rfl⟩
 rw [← hnle] at HMX hnl
 rw [← hnre] at HMG HHE hnr
 rw [hml] at HHE
 obtain ⟨mr, hmr⟩ : ∃ m, m = (markT r 1) := ⟨_, rfl⟩
 rw [← hmr] at HMG HHE hml
 obtain ⟨ml, hmle⟩ : ∃ m, m = markT l 1 := ⟨_, rfl⟩
 rw [← hmle] at HMX
 have HML := Aside0.mk hml
 clear h hl hr ht hsz hspec himpl hke hkr hkh hnle hnre hmr hmle hml
 go_enter Try.func3, Try.ntmps3
 go_wp2_with (first
  | (go_at_call 7; refine (HSZ.out _ HB.out).mono ?_; rintro e w1 ⟨rfl, hd⟩; have hb := hd.below; clear hd; (try (have n_ := Aside0.mk (HW.out.below hb); clear HW; have HW := n_)); (try (have n_ := Aside0.mk (HX.out.below hb); clear HX; have HX := n_)); (try (have n_ := Aside0.mk (HG.out.below hb); clear HG; have HG := n_)); (try (have n_ := Aside0.mk (HT.out.below hb); clear HT; have HT := n_)); (try (have n_ := Aside0.mk (HG1.out.below hb); clear HG1; have HG1 := n_)); (have n_ := Aside0.mk (below_step HB.out hb)); clear HB; have HB := n_; clear hb)
  | (go_at_call 9; refine (HTO.out _ HB.out).mono ?_; rintro e w1 ⟨v, rfl, hS, hb⟩; have ho := Own.new hS HB.out.size; clear hS; obtain ⟨Av, cv, rfl, hcv⟩ := ho.slice; (try clear HT HTc); (try clear HDT); (try have HDT := Aside0.mk HW.out.hi); (try (have n_ := Aside0.mk (HW.out.below hb); clear HW; have HW := n_)); (try (have n_ := Aside0.mk (HX.out.below hb); clear HX; have HX := n_)); (try (have n_ := Aside0.mk (HG.out.below hb); clear HG; have HG := n_)); (try (have n_ := Aside0.mk (HT.out.below hb); clear HT; have HT := n_)); (try (have n_ := Aside0.mk (HG1.out.below hb); clear HG1; have HG1 := n_)); (have n_ := Aside0.mk (below_step HB.out hb)); clear HB; have HB := n_; clear hb; have HT := Aside0.mk ho; have HTc := Aside0.mk hcv; clear ho hcv)
  | (go_at_call 8; refine (HSP.out _ _ _ HT.out.reads HTc.out).mono ?_; rintro e w1 ⟨Aw, cw, rfl, hcw, hC, hb⟩; have ho := Old.new heap_T hC; clear hC; clear HT HTc; (try (have n_ := Aside0.mk (HW.out.below hb); clear HW; have HW := n_)); (try (have n_ := Aside0.mk (HX.out.below hb); clear HX; have HX := n_)); (try (have n_ := Aside0.mk (HG.out.below hb); clear HG; have HG := n_)); (try (have n_ := Aside0.mk (HT.out.below hb); clear HT; have HT := n_)); (try (have n_ := Aside0.mk (HG1.out.below hb); clear HG1; have HG1 := n_)); (have n_ := Aside0.mk (below_step HB.out hb)); clear HB; have HB := n_; clear hb; have HW := Aside0.mk ho; have HWc := Aside0.mk hcw; clear ho hcw)
  | (go_at_call 10; have hg_ := HG; clear hg_; refine (HIM.out _ _ _ HT.out.reads HTc.out).mono ?_; rintro e w1 ⟨v, rfl, hS, hb⟩; have ho := Own.new hS HB.out.size; clear hS; obtain ⟨Ah, ch, rfl, hch⟩ := ho.slice; clear HT HTc; (try (have n_ := Aside0.mk (HW.out.below hb); clear HW; have HW := n_)); (try (have n_ := Aside0.mk (HX.out.below hb); clear HX; have HX := n_)); (try (have n_ := Aside0.mk (HG.out.below hb); clear HG; have HG := n_)); (try (have n_ := Aside0.mk (HT.out.below hb); clear HT; have HT := n_)); (try (have n_ := Aside0.mk (HG1.out.below hb); clear HG1; have HG1 := n_)); (have n_ := Aside0.mk (below_step HB.out hb)); clear HB; have HB := n_; clear hb; have HG1 := Aside0.mk ho; have HG1c := Aside0.mk hch; clear ho hch)
  | (go_at_call 10; refine (HIM.out _ _ _ HT.out.reads HTc.out).mono ?_; rintro e w1 ⟨v, rfl, hS, hb⟩; have ho := Own.new hS HB.out.size; clear hS; obtain ⟨Ag, cg, rfl, hcg⟩ := ho.slice; have HD12 := HDT; have HD23 := Aside0.mk HT.out.hi; have HD13 := Aside0.mk HW.out.hi; clear HDT; have HX := HT; have HXc := HTc; clear HT HTc; (try (have n_ := Aside0.mk (HW.out.below hb); clear HW; have HW := n_)); (try (have n_ := Aside0.mk (HX.out.below hb); clear HX; have HX := n_)); (try (have n_ := Aside0.mk (HG.out.below hb); clear HG; have HG := n_)); (try (have n_ := Aside0.mk (HT.out.below hb); clear HT; have HT := n_)); (try (have n_ := Aside0.mk (HG1.out.below hb); clear HG1; have HG1 := n_)); (have n_ := Aside0.mk (below_step HB.out hb)); clear HB; have HB := n_; clear hb; have HG := Aside0.mk ho; have HGc := Aside0.mk hcg; clear ho hcg)
  | (go_at_call 11; (with_reducible refine (HEL.out _ _ _ _ _ HX.out.reads HXc.out HT.out.reads HTc.out).mono ?_); rintro e w1 ⟨rfl, hd⟩; have hb := hd.below; clear hd; (try (have n_ := Aside0.mk (HW.out.below hb); clear HW; have HW := n_)); (try (have n_ := Aside0.mk (HX.out.below hb); clear HX; have HX := n_)); (try (have n_ := Aside0.mk (HG.out.below hb); clear HG; have HG := n_)); (try (have n_ := Aside0.mk (HT.out.below hb); clear HT; have HT := n_)); (try (have n_ := Aside0.mk (HG1.out.below hb); clear HG1; have HG1 := n_)); (have n_ := Aside0.mk (below_step HB.out hb)); clear HB; have HB := n_; clear hb)
  | (go_at_call 11; (first | (with_reducible refine (HER.out _ _ _ _ _ HG.out.reads HGc.out HW.out.reads HWc.out).mono ?_) | (with_reducible refine (HER.out _ _ _ _ _ HG1.out.reads HG1c.out HW.out.reads HWc.out).mono ?_)); rintro e w1 ⟨rfl, hd⟩; have hb := hd.below; clear hd; (try (have n_ := Aside0.mk (HW.out.below hb); clear HW; have HW := n_)); (try (have n_ := Aside0.mk (HX.out.below hb); clear HX; have HX := n_)); (try (have n_ := Aside0.mk (HG.out.below hb); clear HG; have HG := n_)); (try (have n_ := Aside0.mk (HT.out.below hb); clear HT; have HT := n_)); (try (have n_ := Aside0.mk (HG1.out.below hb); clear HG1; have HG1 := n_)); (have n_ := Aside0.mk (below_step HB.out hb)); clear HB; have HB := n_; clear hb)
  | (go_at_call 12; (with_reducible refine (HMX.out _ _ _ _ HB.out HX.out).mono ?_); rintro e w1 ⟨rfl, ho, hb, hk⟩; have n1_ := Aside0.mk (HW.out.kept hk HD12.out); have n2_ := Aside0.mk (HG.out.kept hk (.inr HD23.out)); clear HW HG HX HXc HB ho hk HT HTc HEL; have HW := n1_; have HG := n2_; have HB := Aside0.mk hb; clear n1_ n2_ hb)
  | (go_at_call 12; (with_reducible refine (HMG.out _ _ _ _ HB.out HG.out).mono ?_); rintro e w1 ⟨rfl, ho, hb, hk⟩; have n1_ := Aside0.mk (HW.out.kept hk HD13.out); clear HW HG HB hk; have HW := n1_; have HG := Aside0.mk ho; have HB := Aside0.mk hb; clear n1_ hb ho)
  | (go_at_call 13; (with_reducible refine (HHE.out _ _ _ (HG.out.reads' HML.out) HGc.out).mono ?_); rintro e w1 ⟨rfl, hd⟩; have hb := hd.below; clear hd; (try (have n_ := Aside0.mk (HW.out.below hb); clear HW; have HW := n_)); (try (have n_ := Aside0.mk (HX.out.below hb); clear HX; have HX := n_)); (try (have n_ := Aside0.mk (HG.out.below hb); clear HG; have HG := n_)); (try (have n_ := Aside0.mk (HT.out.below hb); clear HT; have HT := n_)); (try (have n_ := Aside0.mk (HG1.out.below hb); clear HG1; have HG1 := n_)); (have n_ := Aside0.mk (below_step HB.out hb)); clear HB; have HB := n_; clear hb))
 go_ret
 exact ⟨rfl, HB.out⟩
theorem skipLeastOfOrbit (A : Option Addr) (cap : Nat) (l : List (List Int)) (W : World) (h : RowsIn W A l.length cap l) (t : Int) (ht : t < 0) (k0 : Nat) (hsz : laws_szIntSS.f k0 l 1048576 = some t) :
  Calls Try.prog 3 #[.slice A l.length cap] W fun e w' => e = .returned (.bool true) ∧ Below W.heap.size W w' := by
 have HSZ := Aside0.mk (laws_szIntSS.calls k0 A cap l 1048576 t W h.read h.le hsz)
 have htd : decide (t < 0) = true := decide_eq_true ht
 clear h hsz
 go_enter Try.func3, Try.ntmps3
 go_wp2_with (go_at_call 7; refine HSZ.out.mono ?_; rintro e w1 ⟨rfl, hd⟩; have hb := hd.below; clear hd)
 go_ret
 exact ⟨rfl, hb⟩
/-- The law, out of the two functions' contracts. -/
theorem lawLeastOfOrbit (A : Option Addr) (cap : Nat) (l : List (List Int)) (W : World) (h : RowsIn W A l.length cap l)
  (hboth : fewRows l → ∃ (r : List (List Int)) (b : Bool), fewRows r ∧
   (∀ (W' : World) (A' : Option Addr) (c' : Nat), Kd.C (Kd.slice 3 (Kd.int .i64)) W' A' l.length l → l.length ≤ c' → Calls Try.prog 8 #[.slice A' l.length c'] W' (RetC (Kd.slice 3 (Kd.int .i64)) W' r b)) ∧
   (∀ (W' : World) (A' : Option Addr) (c' : Nat), Kd.C (Kd.slice 3 (Kd.int .i64)) W' A' l.length l → l.length ≤ c' → Calls Try.prog 10 #[.slice A' l.length c'] W' (RetTT W' r b))) :
  Calls Try.prog 3 #[.slice A l.length cap] W fun e w' => e = .returned (.bool true) ∧ Below W.heap.size W w' := by
 obtain ⟨t, ht, hd⟩ := szIntSS_in h
 obtain ⟨k, hk⟩ := ht.rounds
 by_cases hn : t < 0
 ·exact skipLeastOfOrbit A cap l W h t hn k hk
 ·have hf := hd.resolve_left hn
  obtain ⟨r, b, hr, h1, h2⟩ := hboth hf
  exact walkLeastOfOrbit A cap l r b W h hf hr t hn k hk h1 h2
end Go.Proofs.Ythlgclfhoeakgaa.Law
