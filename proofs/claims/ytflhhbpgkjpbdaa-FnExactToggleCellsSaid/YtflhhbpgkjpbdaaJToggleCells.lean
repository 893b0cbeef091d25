import Derived.Test.YtflhhbpgkjpbdaaLA
import Derived.Test.YtflhhbpgkjpbdaaPx16
import Derived.Test.YtflhhbpgkjpbdaaPx20
import Derived.Test.YtflhhbpgkjpbdaaPx22
import Derived.Test.YtflhhbpgkjpbdaaHE
/- The walk of the law FnExactToggleCells, out of contracts of the two functions. -/
namespace Go.Proofs.Ytflhhbpgkjpbdaa.Law
open Go.RowKit Go.Proofs.Ytflhhbpgkjpbdaa Go.Proofs.Ytflhhbpgkjpbdaa.P Go.Proofs.Ytflhhbpgkjpbdaa.L Go.Proofs.YtflhhbpgkjpbdaaW.PrintWords Go.Proofs.YtflhhbpgkjpbdaaW.PrintLast Go.Proofs.YtflhhbpgkjpbdaaW.PrintMore
set_option linter.unusedVariables false
set_option linter.unusedSimpArgs false

theorem mark_ownN {B a b n : Nat} {v : Value} {T : List (List Int)} {W w : World} (hW : W.heap.size = B) (hB : Below B W w) (h : Own B a b w v T) (hn : nTo T n T.length ≤ 4611686018427387904) :
    Calls Try.prog 21 #[v, .int .i64 n] w fun e w' => e = .returned (.int .i64 (nTo T n T.length : Nat)) ∧ Below B W w' ∧ Kept w w' (Itv a b) := by
  subst hW
  refine (markIntSS_calls (Itv a b) v T n W w hB h.s hn).mono ?_
  rintro e w' ⟨h1, h2, h3, h4⟩
  exact ⟨h1, h3, h4⟩
set_option maxHeartbeats 16000000 in
set_option maxRecDepth 100000 in
theorem walkToggleCells (A : Option Addr) (cap : Nat) (l : List (List Int)) (A2 : Option Addr) (cap2 : Nat) (l2 : List (List Int)) (r : List (List Int)) (b : Bool) (W : World) (h : RowsIn W A l.length cap l) (h2 : RowsIn W A2 l2.length cap2 l2) (hl : fewRows l) (hl2 : fewRows l2) (hr : fewRows r) (t t2 : Int) (ht : ¬ t < 0) (ht2 : ¬ t2 < 0) (k0 k1 : Nat) (hsz : laws_szIntSS.f k0 l 1048576 = some t) (hsz2 : laws_szIntSS.f k1 l2 t = some t2)
    (hspec : ∀ (W' : World) (A' : Option Addr) (c' : Nat) (A2' : Option Addr) (c2' : Nat), Kd.C (Kd.slice 3 (Kd.int .i64)) W' A' l.length l → l.length ≤ c' → Kd.C (Kd.slice 3 (Kd.int .i64)) W' A2' l2.length l2 → l2.length ≤ c2' → Calls Try.prog 23 #[.slice A' l.length c', .slice A2' l2.length c2'] W' fun e w' => ∃ v0_ : Value, e = .returned (.tuple #[v0_, .bool b]) ∧ Kd.S (Kd.slice 3 (Kd.int .i64)) 43 w' W'.heap.size (fun _ => True) v0_ r ∧ Below W'.heap.size W' w')
    (himpl : ∀ (W' : World) (A' : Option Addr) (c' : Nat) (A2' : Option Addr) (c2' : Nat), Kd.C (Kd.slice 3 (Kd.int .i64)) W' A' l.length l → l.length ≤ c' → Kd.C (Kd.slice 3 (Kd.int .i64)) W' A2' l2.length l2 → l2.length ≤ c2' → Calls Try.prog 24 #[.slice A' l.length c', .slice A2' l2.length c2'] W' fun e w' => ∃ v0_ : Value, e = .returned (.tuple #[v0_, .bool b]) ∧ Kd.S (Kd.slice 3 (Kd.int .i64)) 43 w' W'.heap.size (fun _ => True) v0_ r ∧ Below W'.heap.size W' w') :
    Calls Try.prog 4 #[.slice A l.length cap, .slice A2 l2.length cap2] W fun e w' => e = .returned (.bool true) ∧ Below W.heap.size W w' := by
  have HSP := Aside0.mk hspec
  have HIM := Aside0.mk himpl
  have HB := Aside0.mk (Below.refl W.heap.size W)
  have htd : decide (t < 0) = false := decide_eq_false ht
  have htd2 : decide (t2 < 0) = false := decide_eq_false ht2
  obtain ⟨ke, hke⟩ := (eqIntSS l hl.ok).rounds
  obtain ⟨ke2, hke2⟩ := (eqIntSS l2 hl2.ok).rounds
  obtain ⟨kr, hkr⟩ := (eqIntSS r hr.ok).rounds
  obtain ⟨kh, hkh⟩ := (heldIntSS_ev r 1 (by have := hr.1; omega) (few_n hr)).rounds
  have HSZ := Aside0.mk (fun W' hb => laws_szIntSS.calls k0 A cap l 1048576 t W' (Kd.C_below h.read hb) h.le hsz)
  have HSZ2 := Aside0.mk (fun W' hb => laws_szIntSS.calls k1 A2 cap2 l2 t t2 W' (Kd.C_below h2.read hb) h2.le hsz2)
  have HTO := Aside0.mk (fun W' hb => laws_toIntSS.calls A cap l l W' (Kd.C_below h.read hb) h.le (toIntSS_eq l hl.ok))
  have HTO2 := Aside0.mk (fun W' hb => laws_toIntSS.calls A2 cap2 l2 l2 W' (Kd.C_below h2.read hb) h2.le (toIntSS_eq l2 hl2.ok))
  have HEL := Aside0.mk (fun W' A0 c0 A1 c1 h0 g0 h1 g1 => laws_eqIntSS.calls ke A0 c0 l A1 c1 l true W' h0 g0 h1 g1 hke)
  have HEL2 := Aside0.mk (fun W' A0 c0 A1 c1 h0 g0 h1 g1 => laws_eqIntSS.calls ke2 A0 c0 l2 A1 c1 l2 true W' h0 g0 h1 g1 hke2)
  have HER := Aside0.mk (fun W' A0 c0 A1 c1 h0 g0 h1 g1 => laws_eqIntSS.calls kr A0 c0 r A1 c1 r true W' h0 g0 h1 g1 hkr)
  have HHE := Aside0.mk (fun W' A0 c0 h0 g0 => laws_heldIntSS.calls kh A0 c0 (markT r 1) 1 (nTo r 1 r.length : Nat) W' h0 g0 hkh)
  have b1 : nTo l 1 l.length ≤ 2000000000000 := by
    have h1 := nTo_le l 1 1048576 hl.2 l.length
    have h2 : l.length * 1048576 ≤ 1048576 * 1048576 := Nat.mul_le_mul_right _ hl.1
    omega
  have b2 : nTo l2 (nTo l 1 l.length) l2.length ≤ 4611686018427387904 := by
    have h1 := nTo_le l2 (nTo l 1 l.length) 1048576 hl2.2 l2.length
    have h2 : l2.length * 1048576 ≤ 1048576 * 1048576 := Nat.mul_le_mul_right _ hl2.1
    omega
  have HMX := Aside0.mk (fun (a b : Nat) (v : Value) (w : World) (hB : Below W.heap.size W w) (ho : Own W.heap.size a b w v l) => mark_own rfl hB ho hl)
  have HMY := Aside0.mk (fun (a b : Nat) (v : Value) (w : World) (hB : Below W.heap.size W w) (ho : Own W.heap.size a b w v l2) => mark_ownN (n := nTo l 1 l.length) rfl hB ho b2)
  have HMG := Aside0.mk (fun (a b : Nat) (v : Value) (w : World) (hB : Below W.heap.size W w) (ho : Own W.heap.size a b w v r) => mark_own rfl hB ho hr)
  have hnl : ¬ ((nTo l2 (nTo l 1 l.length) l2.length : Nat) : Int) < 0 := by omega
  have hnr : ¬ ((nTo r 1 r.length : Nat) : Int) < 0 := by omega
  have hml : (markT r 1).length = r.length := markS_length _ _ _
  obtain ⟨nl, hnle⟩ : ∃ n, n = nTo l 1 l.length := ⟨_, rfl⟩
  rw [← hnle] at HMX HMY hnl
  obtain ⟨n2, hnle2⟩ : ∃ n, n = nTo l2 nl l2.length := ⟨_, rfl⟩
  rw [← hnle2] at HMY hnl
  obtain ⟨nr, hnre⟩ : ∃ n, n = nTo r 1 r.length := ⟨_, rfl⟩
  rw [← hnre] at HMG HHE hnr
  rw [hml] at HHE
  obtain ⟨mr, hmr⟩ : ∃ m, m = markT r 1 := ⟨_, rfl⟩
  rw [← hmr] at HMG HHE hml
  have HML := Aside0.mk hml
  clear h h2 hl hl2 hr ht ht2 hsz hsz2 hspec himpl hke hke2 hkr hkh hnle hnle2 hnre hmr hml b1 b2
  go_enter Try.func4, Try.ntmps4
  go_wp2_with (first
    | (go_at_call 16; (first | (with_reducible refine (HSZ.out _ HB.out).mono ?_) | (with_reducible refine (HSZ2.out _ HB.out).mono ?_)); rintro e w1 ⟨rfl, hd⟩; have hb := hd.below; clear hd; (try (have n_ := Aside0.mk (HW.out.below hb); clear HW; have HW := n_)); (try (have n_ := Aside0.mk (HX.out.below hb); clear HX; have HX := n_)); (try (have n_ := Aside0.mk (HY.out.below hb); clear HY; have HY := n_)); (try (have n_ := Aside0.mk (HG.out.below hb); clear HG; have HG := n_)); (try (have n_ := Aside0.mk (HT.out.below hb); clear HT; have HT := n_)); (try (have n_ := Aside0.mk (HU.out.below hb); clear HU; have HU := n_)); (try (have n_ := Aside0.mk (HG1.out.below hb); clear HG1; have HG1 := n_)); (have n_ := Aside0.mk (below_step HB.out hb)); clear HB; have HB := n_; clear hb)
    | (go_at_call 18; (with_reducible refine (HTO.out _ HB.out).mono ?_); rintro e w1 ⟨v, rfl, hS, hb⟩; have ho := Own.new hS HB.out.size; clear hS; obtain ⟨Av, cv, rfl, hcv⟩ := ho.slice; (try clear HT HTc); (try clear HDT); (try have HDT := Aside0.mk HW.out.hi); (try (have n_ := Aside0.mk (HW.out.below hb); clear HW; have HW := n_)); (try (have n_ := Aside0.mk (HX.out.below hb); clear HX; have HX := n_)); (try (have n_ := Aside0.mk (HY.out.below hb); clear HY; have HY := n_)); (try (have n_ := Aside0.mk (HG.out.below hb); clear HG; have HG := n_)); (try (have n_ := Aside0.mk (HT.out.below hb); clear HT; have HT := n_)); (try (have n_ := Aside0.mk (HU.out.below hb); clear HU; have HU := n_)); (try (have n_ := Aside0.mk (HG1.out.below hb); clear HG1; have HG1 := n_)); (have n_ := Aside0.mk (below_step HB.out hb)); clear HB; have HB := n_; clear hb; have HT := Aside0.mk ho; have HTc := Aside0.mk hcv; clear ho hcv)
    | (go_at_call 18; (with_reducible refine (HTO2.out _ HB.out).mono ?_); rintro e w1 ⟨v, rfl, hS, hb⟩; have ho := Own.new hS HB.out.size; clear hS; obtain ⟨Au, cu, rfl, hcu⟩ := ho.slice; (try clear HU HUc); (try clear HDU); (try clear HTU); (try have HDU := Aside0.mk HW.out.hi); (try have HTU := Aside0.mk HT.out.hi); (try (have n_ := Aside0.mk (HW.out.below hb); clear HW; have HW := n_)); (try (have n_ := Aside0.mk (HX.out.below hb); clear HX; have HX := n_)); (try (have n_ := Aside0.mk (HY.out.below hb); clear HY; have HY := n_)); (try (have n_ := Aside0.mk (HG.out.below hb); clear HG; have HG := n_)); (try (have n_ := Aside0.mk (HT.out.below hb); clear HT; have HT := n_)); (try (have n_ := Aside0.mk (HU.out.below hb); clear HU; have HU := n_)); (try (have n_ := Aside0.mk (HG1.out.below hb); clear HG1; have HG1 := n_)); (have n_ := Aside0.mk (below_step HB.out hb)); clear HB; have HB := n_; clear hb; have HU := Aside0.mk ho; have HUc := Aside0.mk hcu; clear ho hcu)
    | (go_at_call 23; refine (HSP.out _ _ _ _ _ HT.out.reads HTc.out HU.out.reads HUc.out).mono ?_; rintro e w1 ⟨v, rfl, hS, hb⟩; have ho := Own.new hS HB.out.size; clear hS; obtain ⟨Aw, cw, rfl, hcw⟩ := ho.slice; clear HT HTc HU HUc; (try (have n_ := Aside0.mk (HW.out.below hb); clear HW; have HW := n_)); (try (have n_ := Aside0.mk (HX.out.below hb); clear HX; have HX := n_)); (try (have n_ := Aside0.mk (HY.out.below hb); clear HY; have HY := n_)); (try (have n_ := Aside0.mk (HG.out.below hb); clear HG; have HG := n_)); (try (have n_ := Aside0.mk (HT.out.below hb); clear HT; have HT := n_)); (try (have n_ := Aside0.mk (HU.out.below hb); clear HU; have HU := n_)); (try (have n_ := Aside0.mk (HG1.out.below hb); clear HG1; have HG1 := n_)); (have n_ := Aside0.mk (below_step HB.out hb)); clear HB; have HB := n_; clear hb; have HW := Aside0.mk ho; have HWc := Aside0.mk hcw; clear ho hcw)
    | (go_at_call 24; have hg_ := HG; clear hg_; refine (HIM.out _ _ _ _ _ HT.out.reads HTc.out HU.out.reads HUc.out).mono ?_; rintro e w1 ⟨v, rfl, hS, hb⟩; have ho := Own.new hS HB.out.size; clear hS; obtain ⟨Ah, ch, rfl, hch⟩ := ho.slice; clear HT HTc HU HUc; (try (have n_ := Aside0.mk (HW.out.below hb); clear HW; have HW := n_)); (try (have n_ := Aside0.mk (HX.out.below hb); clear HX; have HX := n_)); (try (have n_ := Aside0.mk (HY.out.below hb); clear HY; have HY := n_)); (try (have n_ := Aside0.mk (HG.out.below hb); clear HG; have HG := n_)); (try (have n_ := Aside0.mk (HT.out.below hb); clear HT; have HT := n_)); (try (have n_ := Aside0.mk (HU.out.below hb); clear HU; have HU := n_)); (try (have n_ := Aside0.mk (HG1.out.below hb); clear HG1; have HG1 := n_)); (have n_ := Aside0.mk (below_step HB.out hb)); clear HB; have HB := n_; clear hb; have HG1 := Aside0.mk ho; have HG1c := Aside0.mk hch; clear ho hch)
    | (go_at_call 24; refine (HIM.out _ _ _ _ _ HT.out.reads HTc.out HU.out.reads HUc.out).mono ?_; rintro e w1 ⟨v, rfl, hS, hb⟩; have ho := Own.new hS HB.out.size; clear hS; obtain ⟨Ag, cg, rfl, hcg⟩ := ho.slice; have HWX := HDT; have HWY := HDU; have HXY := HTU; have HXG := Aside0.mk HT.out.hi; have HYG := Aside0.mk HU.out.hi; have HWG := Aside0.mk HW.out.hi; clear HDT HDU HTU; have HX := HT; have HXc := HTc; have HY := HU; have HYc := HUc; clear HT HTc HU HUc; (try (have n_ := Aside0.mk (HW.out.below hb); clear HW; have HW := n_)); (try (have n_ := Aside0.mk (HX.out.below hb); clear HX; have HX := n_)); (try (have n_ := Aside0.mk (HY.out.below hb); clear HY; have HY := n_)); (try (have n_ := Aside0.mk (HG.out.below hb); clear HG; have HG := n_)); (try (have n_ := Aside0.mk (HT.out.below hb); clear HT; have HT := n_)); (try (have n_ := Aside0.mk (HU.out.below hb); clear HU; have HU := n_)); (try (have n_ := Aside0.mk (HG1.out.below hb); clear HG1; have HG1 := n_)); (have n_ := Aside0.mk (below_step HB.out hb)); clear HB; have HB := n_; clear hb; have HG := Aside0.mk ho; have HGc := Aside0.mk hcg; clear ho hcg)
    | (go_at_call 20; (first | (with_reducible refine (HER.out _ _ _ _ _ HG.out.reads HGc.out HW.out.reads HWc.out).mono ?_) | (with_reducible refine (HEL.out _ _ _ _ _ HX.out.reads HXc.out HT.out.reads HTc.out).mono ?_) | (with_reducible refine (HEL2.out _ _ _ _ _ HY.out.reads HYc.out HU.out.reads HUc.out).mono ?_) | (with_reducible refine (HER.out _ _ _ _ _ HG1.out.reads HG1c.out HW.out.reads HWc.out).mono ?_)); rintro e w1 ⟨rfl, hd⟩; have hb := hd.below; clear hd; (try (have n_ := Aside0.mk (HW.out.below hb); clear HW; have HW := n_)); (try (have n_ := Aside0.mk (HX.out.below hb); clear HX; have HX := n_)); (try (have n_ := Aside0.mk (HY.out.below hb); clear HY; have HY := n_)); (try (have n_ := Aside0.mk (HG.out.below hb); clear HG; have HG := n_)); (try (have n_ := Aside0.mk (HT.out.below hb); clear HT; have HT := n_)); (try (have n_ := Aside0.mk (HU.out.below hb); clear HU; have HU := n_)); (try (have n_ := Aside0.mk (HG1.out.below hb); clear HG1; have HG1 := n_)); (have n_ := Aside0.mk (below_step HB.out hb)); clear HB; have HB := n_; clear hb)
    | (go_at_call 21; (with_reducible refine (HMX.out _ _ _ _ HB.out HX.out).mono ?_); rintro e w1 ⟨rfl, ho, hb, hk⟩; clear ho; have n1_ := Aside0.mk (HW.out.kept hk (.inl HWX.out)); have n2_ := Aside0.mk (HG.out.kept hk (.inr HXG.out)); have n3_ := Aside0.mk (HY.out.kept hk (.inr HXY.out)); clear HW HG HY HX HXc HB hk HT HTc HU HUc HEL HEL2; have HW := n1_; have HG := n2_; have HY := n3_; have HB := Aside0.mk hb; clear n1_ n2_ n3_ hb)
    | (go_at_call 21; (with_reducible refine (HMY.out _ _ _ _ HB.out HY.out).mono ?_); rintro e w1 ⟨rfl, hb, hk⟩; have n1_ := Aside0.mk (HW.out.kept hk (.inl HWY.out)); have n2_ := Aside0.mk (HG.out.kept hk (.inr HYG.out)); clear HW HG HY HYc HB hk; have HW := n1_; have HG := n2_; have HB := Aside0.mk hb; clear n1_ n2_ hb)
    | (go_at_call 21; (with_reducible refine (HMG.out _ _ _ _ HB.out HG.out).mono ?_); rintro e w1 ⟨rfl, ho, hb, hk⟩; have n1_ := Aside0.mk (HW.out.kept hk (.inl HWG.out)); clear HW HG HB hk; have HW := n1_; have HG := Aside0.mk ho; have HB := Aside0.mk hb; clear n1_ hb ho)
    | (go_at_call 22; (with_reducible refine (HHE.out _ _ _ (HG.out.reads' HML.out) HGc.out).mono ?_); rintro e w1 ⟨rfl, hd⟩; have hb := hd.below; clear hd; (try (have n_ := Aside0.mk (HW.out.below hb); clear HW; have HW := n_)); (try (have n_ := Aside0.mk (HX.out.below hb); clear HX; have HX := n_)); (try (have n_ := Aside0.mk (HY.out.below hb); clear HY; have HY := n_)); (try (have n_ := Aside0.mk (HG.out.below hb); clear HG; have HG := n_)); (try (have n_ := Aside0.mk (HT.out.below hb); clear HT; have HT := n_)); (try (have n_ := Aside0.mk (HU.out.below hb); clear HU; have HU := n_)); (try (have n_ := Aside0.mk (HG1.out.below hb); clear HG1; have HG1 := n_)); (have n_ := Aside0.mk (below_step HB.out hb)); clear HB; have HB := n_; clear hb))
  go_ret
  exact ⟨rfl, HB.out⟩
theorem skipToggleCells (A : Option Addr) (cap : Nat) (l : List (List Int)) (A2 : Option Addr) (cap2 : Nat) (l2 : List (List Int)) (W : World) (h : RowsIn W A l.length cap l) (t : Int) (ht : t < 0) (k0 : Nat) (hsz : laws_szIntSS.f k0 l 1048576 = some t) :
    Calls Try.prog 4 #[.slice A l.length cap, .slice A2 l2.length cap2] W fun e w' => e = .returned (.bool true) ∧ Below W.heap.size W w' := by
  have HSZ := Aside0.mk (laws_szIntSS.calls k0 A cap l 1048576 t W h.read h.le hsz)
  have htd : decide (t < 0) = true := decide_eq_true ht
  clear h hsz
  go_enter Try.func4, Try.ntmps4
  go_wp2_with (go_at_call 16; refine HSZ.out.mono ?_; rintro e w1 ⟨rfl, hd⟩; have hb := hd.below; clear hd)
  go_ret
  exact ⟨rfl, hb⟩
theorem skip2ToggleCells (A : Option Addr) (cap : Nat) (l : List (List Int)) (A2 : Option Addr) (cap2 : Nat) (l2 : List (List Int)) (W : World) (h : RowsIn W A l.length cap l) (h2 : RowsIn W A2 l2.length cap2 l2) (t t2 : Int) (ht : ¬ t < 0) (ht2 : t2 < 0) (k0 k1 : Nat) (hsz : laws_szIntSS.f k0 l 1048576 = some t) (hsz2 : laws_szIntSS.f k1 l2 t = some t2) :
    Calls Try.prog 4 #[.slice A l.length cap, .slice A2 l2.length cap2] W fun e w' => e = .returned (.bool true) ∧ Below W.heap.size W w' := by
  have HSZ := Aside0.mk (laws_szIntSS.calls k0 A cap l 1048576 t W h.read h.le hsz)
  have HSZ2 := Aside0.mk (fun W' hb => laws_szIntSS.calls k1 A2 cap2 l2 t t2 W' (Kd.C_below h2.read hb) h2.le hsz2)
  have htd : decide (t < 0) = false := decide_eq_false ht
  have htd2 : decide (t2 < 0) = true := decide_eq_true ht2
  clear h h2 hsz hsz2
  go_enter Try.func4, Try.ntmps4
  go_wp2_with (first | (go_at_call 16; (with_reducible refine HSZ.out.mono ?_); rintro e w1 ⟨rfl, hd⟩; have HB := Aside0.mk hd.below; clear hd) | (go_at_call 16; (with_reducible refine (HSZ2.out _ HB.out).mono ?_); rintro e w2 ⟨rfl, hd⟩; have HB2 := Aside0.mk (below_step HB.out hd.below); clear hd))
  go_ret
  exact ⟨rfl, HB2.out⟩
/-- The law, out of the two functions' contracts. -/
theorem lawToggleCells (A : Option Addr) (cap : Nat) (l : List (List Int)) (A2 : Option Addr) (cap2 : Nat) (l2 : List (List Int)) (W : World) (h : RowsIn W A l.length cap l) (h2 : RowsIn W A2 l2.length cap2 l2)
    (hboth : fewRows l → fewRows l2 → ∃ (r : List (List Int)) (b : Bool), fewRows r ∧
      (∀ (W' : World) (A' : Option Addr) (c' : Nat) (A2' : Option Addr) (c2' : Nat), Kd.C (Kd.slice 3 (Kd.int .i64)) W' A' l.length l → l.length ≤ c' → Kd.C (Kd.slice 3 (Kd.int .i64)) W' A2' l2.length l2 → l2.length ≤ c2' → Calls Try.prog 23 #[.slice A' l.length c', .slice A2' l2.length c2'] W' fun e w' => ∃ v0_ : Value, e = .returned (.tuple #[v0_, .bool b]) ∧ Kd.S (Kd.slice 3 (Kd.int .i64)) 43 w' W'.heap.size (fun _ => True) v0_ r ∧ Below W'.heap.size W' w') ∧
      (∀ (W' : World) (A' : Option Addr) (c' : Nat) (A2' : Option Addr) (c2' : Nat), Kd.C (Kd.slice 3 (Kd.int .i64)) W' A' l.length l → l.length ≤ c' → Kd.C (Kd.slice 3 (Kd.int .i64)) W' A2' l2.length l2 → l2.length ≤ c2' → Calls Try.prog 24 #[.slice A' l.length c', .slice A2' l2.length c2'] W' fun e w' => ∃ v0_ : Value, e = .returned (.tuple #[v0_, .bool b]) ∧ Kd.S (Kd.slice 3 (Kd.int .i64)) 43 w' W'.heap.size (fun _ => True) v0_ r ∧ Below W'.heap.size W' w')) :
    Calls Try.prog 4 #[.slice A l.length cap, .slice A2 l2.length cap2] W fun e w' => e = .returned (.bool true) ∧ Below W.heap.size W w' := by
  obtain ⟨t, htl, ht, hd⟩ := szIntSS_at l 1048576 (by omega) (by omega) (by have := h.size; omega) (fun r hr => (h.rows r hr).1)
  obtain ⟨k, hk⟩ := ht.rounds
  by_cases hn : t < 0
  · exact skipToggleCells A cap l A2 cap2 l2 W h t hn k hk
  · have hf := hd.resolve_left hn
    obtain ⟨t2, _, ht2, hd2⟩ := szIntSS_at l2 t (by omega) htl (by have := h2.size; omega) (fun r hr => (h2.rows r hr).1)
    obtain ⟨k2, hk2⟩ := ht2.rounds
    by_cases hn2 : t2 < 0
    · exact skip2ToggleCells A cap l A2 cap2 l2 W h h2 t t2 hn hn2 k k2 hk hk2
    · have hf2 := hd2.resolve_left hn2
      obtain ⟨r, b, hr, h1, h3⟩ := hboth hf hf2
      exact walkToggleCells A cap l A2 cap2 l2 r b W h h2 hf hf2 hr t t2 hn hn2 k k2 hk hk2 h1 h3
end Go.Proofs.Ytflhhbpgkjpbdaa.Law

/- The program's ToggleCells answers as the reference's ToggleCells, for all tables and lists of cells; both stay as they were, and what comes back is the call's own (the walk of the law FnExactToggleCells; no condition). -/
namespace Go.Proofs.Ytflhhbpgkjpbdaa.Law
open Go.RowKit Go.Proofs.Ytflhhbpgkjpbdaa Go.Proofs.Ytflhhbpgkjpbdaa.P Go.Proofs.Ytflhhbpgkjpbdaa.L Go.Proofs.YtflhhbpgkjpbdaaW.PrintWords Go.Proofs.YtflhhbpgkjpbdaaW.PrintLast Go.Proofs.YtflhhbpgkjpbdaaW.PrintMore

theorem togR_few (l L : List (List Int)) : fewRows (togR l L) := by
  unfold togR
  split
  · rename_i hs
    rw [Bool.and_eq_true] at hs
    have h2 := (isSign_facts hs.1).2.1
    refine ⟨by rw [toggledT_length]; omega, fun r hr => ?_⟩
    obtain ⟨i, _, rfl⟩ := List.mem_map.1 hr
    rw [rowL_length]; omega
  · exact ⟨by simp, fun r hr => by cases hr⟩
theorem FnExactToggleCells (A : Option Addr) (cap : Nat) (l : List (List Int)) {W0 : World} (h : RowsIn W0 A l.length cap l) (A2 : Option Addr) (cap2 : Nat) (L : List (List Int)) (h2 : RowsIn W0 A2 L.length cap2 L) (W : World) (hW : W = W0) :
    Calls Try.prog 4 #[.slice A l.length cap, .slice A2 L.length cap2] W fun e w' => e = .returned (.bool true) ∧ Below W.heap.size W w' := by
  subst hW
  refine lawToggleCells A cap l A2 cap2 L W h h2 fun hf _ => ?_
  exact ⟨togR l L, isSign l && cellsB l.length L, togR_few l L, fun W' A' c' A2' c2' h1 h2 h3 h4 => spec_ToggleCells.callsG A' c' l A2' c2' L W' hf h1 h2 h3 h4, fun W' A' c' A2' c2' h1 h2 h3 h4 => impl_ToggleCells.callsG A' c' l A2' c2' L W' h1 h2 h3 h4⟩
end Go.Proofs.Ytflhhbpgkjpbdaa.Law
