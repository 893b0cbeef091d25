/- Texts of one chain, in build order. -/
import Derived.Test.YthbkjaieenochaaYSignsWithPattern38
namespace Go.Proofs.Ythbkjaieenochaa.L
open Go.RowKit Go.Proofs.Ythbkjaieenochaa Go.Proofs.Ythbkjaieenochaa.P Go.Proofs.YthbkjaieenochaaW.PrintWords Go.Proofs.YthbkjaieenochaaW.PrintLast Go.Proofs.YthbkjaieenochaaW.PrintMore

theorem within_eq (a b c : Int) : impl_within.f a b c = some (inB a b c) := rfl

theorem l1All_l0 (l : List Int) (a b : Int) (hl : l.length ≤ 35184372088832) : ∀ (d i : Nat), i + d = l.length → Ev (fun k => spec_l1All.l0 k a b l l.length i) ((l.drop i).all fun x => inB x a b) := by
 intro d
 induction d with
 | zero =>
  intro i hi
  refine Ev.step (fun k => by rw [spec_l1All.l0]) ?_
  rw [List.drop_eq_nil_of_le (by omega)]
  exact Ev.ite_neg (by omega) (Ev.now _)
 | succ d ih =>
  intro i hi
  refine Ev.step (fun k => by rw [spec_l1All.l0]) ?_
  refine Ev.ite_pos (by omega) (Ev.ite_pos (by omega) (Ev.ite_pos (by omega) ?_))
  rw [l1In_eq, rd_at l i (by omega), List.drop_eq_getElem_cons (by omega), List.all_cons]
  simp only [Option.bind_some]
  cases h : inB l[i] a b with
  | true =>
   refine Ev.ite_pos rfl ?_
   rw [wrapS i (by omega), Bool.true_and]
   exact ih (i + 1) (by omega)
  | false => exact Ev.ite_neg (by simp) (Ev.now _)
theorem l1All_ev (l : List Int) (a b : Int) (hl : l.length ≤ 35184372088832) : Ev (fun k => spec_l1All.f k l a b) (l.all fun x => inB x a b) := l1All_l0 l a b hl l.length 0 (by omega)

/-- What lies between i and its partner x. -/
def insideB (l : List Int) (i : Nat) (x : Int) (j : Nat) : Bool := (List.range' j (x.toNat - j)).all fun z => inB (rd l z) (i + 1) (x - 1)
def patAt (l : List Int) (i : Nat) : Bool := !(rd l i == (i : Int)) && (rd l (rd l i) == (i : Int)) && insideB l i (rd l i) (i + 1)
def patFrom (l : List Int) (i : Nat) : Bool := (List.range' i (l.length - i)).all (patAt l)
/-- A pattern, as both texts tell it. -/
def isPat (l : List Int) : Bool := decide (l.length % 2 = 0) && (inB (l.length / 2 : Nat) 1 6 && ((l.all fun x => inB x 0 (l.length - 1)) && patFrom l 0))
theorem insideB_step (l : List Int) (i : Nat) (x : Int) (j : Nat) (h : (j : Int) < x) : insideB l i x j = (inB (rd l j) (i + 1) (x - 1) && insideB l i x (j + 1)) := by
 unfold insideB
 obtain ⟨m, hm⟩ : ∃ m, x.toNat - j = m + 1 := ⟨x.toNat - j - 1, by omega⟩
 rw [hm, show x.toNat - (j + 1) = m by omega, List.range'_succ, List.all_cons]
theorem insideB_end (l : List Int) (i : Nat) (x : Int) (j : Nat) (h : ¬ (j : Int) < x) : insideB l i x j = true := by
 unfold insideB
 rw [show x.toNat - j = 0 by omega]; rfl
theorem patFrom_step (l : List Int) (i : Nat) (h : i < l.length) : patFrom l i = (patAt l i && patFrom l (i + 1)) := by
 unfold patFrom
 obtain ⟨m, hm⟩ : ∃ m, l.length - i = m + 1 := ⟨l.length - i - 1, by omega⟩
 rw [hm, show l.length - (i + 1) = m by omega, List.range'_succ, List.all_cons]
theorem patFrom_end (l : List Int) : patFrom l l.length = true := by unfold patFrom; rw [Nat.sub_self]; rfl
theorem all_mem {l : List Int} {a b : Int} (h : (l.all fun x => inB x a b) = true) (i : Nat) (hi : i < l.length) : a ≤ rd l i ∧ rd l i ≤ b := by
 rw [rd_at l i hi]
 exact (inB_iff _ _ _).1 (List.all_eq_true.1 h _ (List.getElem_mem hi))

theorem isSide_eq (n : Int) : impl_isSide.f n = some (inB n 1 6) := rfl

theorem spec_loIsPattern_l1 (l : List Int) (hl : l.length ≤ 35184372088832) (i : Nat) (hi : i < l.length) (x : Int) (hx0 : 0 ≤ x) (hx : x < l.length) (rest : Bool)
  (hr : Ev (fun k => spec_loIsPattern.l0 k l l l.length ((i + 1 : Nat) : Int)) rest) : ∀ (d j : Nat), i + 1 ≤ j → x.toNat - j ≤ d → Ev (fun k => spec_loIsPattern.l1 k l i x j l l.length i) (insideB l i x j && rest) := by
 intro d
 induction d with
 | zero =>
  intro j hij hd
  refine Ev.step (fun k => by rw [spec_loIsPattern.l1]) ?_
  rw [insideB_end l i x j (by omega), Bool.true_and]
  refine Ev.ite_neg (by omega) ?_
  rw [wrapS i (by omega)]
  exact hr
 | succ d ih =>
  intro j hij hd
  refine Ev.step (fun k => by rw [spec_loIsPattern.l1]) ?_
  by_cases hjx : (j : Int) < x
  ·refine Ev.ite_pos hjx (Ev.ite_pos (by omega) (Ev.ite_pos (by omega) ?_))
   rw [l1In_eq, wrapI (x - 1) (by omega) (by omega), wrapI ((i : Int) + 1) (by omega) (by omega), insideB_step l i x j hjx]
   simp only [Option.bind_some]
   cases hb : inB (rd l j) (i + 1) (x - 1) with
   | true =>
    refine Ev.ite_pos rfl ?_
    rw [wrapS j (by omega), Bool.true_and]
    exact ih (j + 1) (by omega) (by omega)
   | false => exact Ev.ite_neg (by simp) (Ev.now _)
  ·rw [insideB_end l i x j hjx, Bool.true_and]
   refine Ev.ite_neg hjx ?_
   rw [wrapS i (by omega)]
   exact hr
theorem spec_loIsPattern_l0 (l : List Int) (hl : l.length ≤ 35184372088832) (ha : (l.all fun x => inB x 0 (l.length - 1)) = true) : ∀ (d i : Nat), i + d = l.length → Ev (fun k => spec_loIsPattern.l0 k l l l.length i) (patFrom l i) := by
 intro d
 induction d with
 | zero =>
  intro i hi
  refine Ev.step (fun k => by rw [spec_loIsPattern.l0]) ?_
  have : i = l.length := by omega
  subst this
  rw [patFrom_end]
  exact Ev.ite_neg (by omega) (Ev.now _)
 | succ d ih =>
  intro i hi
  have hx := all_mem ha i (by omega)
  refine Ev.step (fun k => by rw [spec_loIsPattern.l0]) ?_
  refine Ev.ite_pos (by omega) (Ev.ite_pos (by omega) (Ev.ite_pos (by omega) ?_))
  rw [patFrom_step l i (by omega)]
  unfold patAt
  by_cases h1 : rd l i = (i : Int)
  ·refine Ev.ite_pos h1 ?_
   refine Ev.step (fun k => by rw [spec_loIsPattern.j2]) ?_
   refine Ev.ite_pos rfl ?_
   rw [show (rd l i == (i : Int)) = true from beq_iff_eq.2 h1]
   exact Ev.now _
  ·refine Ev.ite_neg h1 (Ev.ite_pos (by omega) (Ev.ite_pos (by omega) ?_))
   rw [show (rd l i == (i : Int)) = false from beq_eq_false_iff_ne.2 h1]
   refine Ev.step (fun k => by rw [spec_loIsPattern.j2]) ?_
   by_cases h2 : rd l (rd l i) = (i : Int)
   ·rw [show (rd l (rd l i) == (i : Int)) = true from beq_iff_eq.2 h2]
    refine Ev.ite_neg (by simp [h2]) ?_
    simp only [Bool.not_false, Bool.true_and]
    rw [wrapS i (by omega)]
    exact spec_loIsPattern_l1 l hl i (by omega) (rd l i) (by omega) (by omega) _ (ih (i + 1) (by omega)) _ (i + 1) (Nat.le_refl _) (Nat.le_refl _)
   ·rw [show (rd l (rd l i) == (i : Int)) = false from beq_eq_false_iff_ne.2 h2]
    refine Ev.ite_pos (by simp [h2]) ?_
    simp only [Bool.not_false, Bool.true_and, Bool.false_and]
    exact Ev.now _
theorem spec_loIsPattern_j0 (l : List Int) (b : Bool) (hb : b = false → (l.all fun x => inB x 0 (l.length - 1)) = true) (hl : l.length ≤ 35184372088832) : Ev (fun k => spec_loIsPattern.j0 k l b) (!b && patFrom l 0) := by
 refine Ev.step (fun k => by rw [spec_loIsPattern.j0]) ?_
 cases b with
 | true => exact Ev.ite_pos rfl (Ev.now _)
 | false =>
  refine Ev.ite_neg (by simp) ?_
  exact spec_loIsPattern_l0 l hl (hb rfl) l.length 0 (by omega)
theorem spec_loIsPattern_ev (l : List Int) (hl : l.length ≤ 35184372088832) : Ev (fun k => spec_loIsPattern.f k l) (isPat l) := by
 unfold spec_loIsPattern.f isPat
 by_cases h1 : ((l.length : Int) % 2) = 1
 ·refine Ev.ite_pos h1 ?_
  rw [show decide (l.length % 2 = 0) = false from decide_eq_false (by omega)]
  exact spec_loIsPattern_j0 l true (by simp) hl
 ·refine Ev.ite_neg h1 ?_
  rw [show decide (l.length % 2 = 0) = true from decide_eq_true (by omega), Bool.true_and, wrapI _ (by omega) (by omega), l1In_eq, show ((l.length : Int) / 2) = ((l.length / 2 : Nat) : Int) by omega]
  simp only [Option.bind_some]
  cases h2 : inB (l.length / 2 : Nat) 1 6 with
  | false =>
   refine Ev.ite_neg (by simp) ?_
   exact spec_loIsPattern_j0 l true (by simp) hl
  | true =>
   refine Ev.ite_pos rfl ?_
   rw [wrapI _ (by omega) (by omega), Bool.true_and]
   refine Ev.bind (l1All_ev l 0 (l.length - 1) hl) ?_
   cases h3 : (l.all fun x => inB x 0 (l.length - 1)) with
   | false =>
    exact spec_loIsPattern_j0 l true (by simp) hl
   | true =>
    have := spec_loIsPattern_j0 l false (fun _ => h3) hl
    simpa using this

theorem impl_IsPattern_l1 (l : List Int) (hl : l.length ≤ 35184372088832) (i : Nat) (hi : i < l.length) (x : Int) (hx0 : 0 ≤ x) (hx : x < l.length) (rest : Bool)
  (hr : Ev (fun k => impl_IsPattern.l0 k l l l.length ((i + 1 : Nat) : Int)) rest) : ∀ (d j : Nat), i + 1 ≤ j → x.toNat - j ≤ d → Ev (fun k => impl_IsPattern.l1 k l i x j l l.length i) (insideB l i x j && rest) := by
 intro d
 induction d with
 | zero =>
  intro j hij hd
  refine Ev.step (fun k => by rw [impl_IsPattern.l1]) ?_
  rw [insideB_end l i x j (by omega), Bool.true_and]
  refine Ev.ite_neg (by omega) ?_
  rw [wrapS i (by omega)]
  exact hr
 | succ d ih =>
  intro j hij hd
  refine Ev.step (fun k => by rw [impl_IsPattern.l1]) ?_
  by_cases hjx : (j : Int) < x
  ·refine Ev.ite_pos hjx (Ev.ite_pos (by omega) (Ev.ite_pos (by omega) ?_))
   rw [within_eq, wrapI (x - 1) (by omega) (by omega), wrapI ((i : Int) + 1) (by omega) (by omega), insideB_step l i x j hjx]
   simp only [Option.bind_some]
   cases hb : inB (rd l j) (i + 1) (x - 1) with
   | true =>
    refine Ev.ite_pos rfl ?_
    rw [wrapS j (by omega), Bool.true_and]
    exact ih (j + 1) (by omega) (by omega)
   | false => exact Ev.ite_neg (by simp) (Ev.now _)
  ·rw [insideB_end l i x j hjx, Bool.true_and]
   refine Ev.ite_neg hjx ?_
   rw [wrapS i (by omega)]
   exact hr
theorem impl_IsPattern_l0 (l : List Int) (hl : l.length ≤ 35184372088832) (ha : (l.all fun x => inB x 0 (l.length - 1)) = true) : ∀ (d i : Nat), i + d = l.length → Ev (fun k => impl_IsPattern.l0 k l l l.length i) (patFrom l i) := by
 intro d
 induction d with
 | zero =>
  intro i hi
  refine Ev.step (fun k => by rw [impl_IsPattern.l0]) ?_
  have : i = l.length := by omega
  subst this
  rw [patFrom_end]
  exact Ev.ite_neg (by omega) (Ev.now _)
 | succ d ih =>
  intro i hi
  have hx := all_mem ha i (by omega)
  refine Ev.step (fun k => by rw [impl_IsPattern.l0]) ?_
  refine Ev.ite_pos (by omega) (Ev.ite_pos (by omega) (Ev.ite_pos (by omega) ?_))
  rw [patFrom_step l i (by omega)]
  unfold patAt
  by_cases h1 : rd l i = (i : Int)
  ·refine Ev.ite_pos h1 ?_
   refine Ev.step (fun k => by rw [impl_IsPattern.j2]) ?_
   refine Ev.ite_pos rfl ?_
   rw [show (rd l i == (i : Int)) = true from beq_iff_eq.2 h1]
   exact Ev.now _
  ·refine Ev.ite_neg h1 (Ev.ite_pos (by omega) (Ev.ite_pos (by omega) ?_))
   rw [show (rd l i == (i : Int)) = false from beq_eq_false_iff_ne.2 h1]
   refine Ev.step (fun k => by rw [impl_IsPattern.j2]) ?_
   by_cases h2 : rd l (rd l i) = (i : Int)
   ·rw [show (rd l (rd l i) == (i : Int)) = true from beq_iff_eq.2 h2]
    refine Ev.ite_neg (by simp [h2]) ?_
    simp only [Bool.not_false, Bool.true_and]
    rw [wrapS i (by omega)]
    exact impl_IsPattern_l1 l hl i (by omega) (rd l i) (by omega) (by omega) _ (ih (i + 1) (by omega)) _ (i + 1) (Nat.le_refl _) (Nat.le_refl _)
   ·rw [show (rd l (rd l i) == (i : Int)) = false from beq_eq_false_iff_ne.2 h2]
    refine Ev.ite_pos (by simp [h2]) ?_
    simp only [Bool.not_false, Bool.true_and, Bool.false_and]
    exact Ev.now _
theorem impl_IsPattern_j0 (l : List Int) (b : Bool) (hb : b = false → (l.all fun x => inB x 0 (l.length - 1)) = true) (hl : l.length ≤ 35184372088832) : Ev (fun k => impl_IsPattern.j0 k l b) (!b && patFrom l 0) := by
 refine Ev.step (fun k => by rw [impl_IsPattern.j0]) ?_
 cases b with
 | true => exact Ev.ite_pos rfl (Ev.now _)
 | false =>
  refine Ev.ite_neg (by simp) ?_
  exact impl_IsPattern_l0 l hl (hb rfl) l.length 0 (by omega)
theorem impl_IsPattern_ev (l : List Int) (hl : l.length ≤ 35184372088832) : Ev (fun k => impl_IsPattern.f k l) (isPat l) := by
 unfold impl_IsPattern.f isPat
 by_cases h1 : ((l.length : Int) % 2) = 1
 ·refine Ev.ite_pos h1 ?_
  rw [show decide (l.length % 2 = 0) = false from decide_eq_false (by omega)]
  exact impl_IsPattern_j0 l true (by simp) hl
 ·refine Ev.ite_neg h1 ?_
  rw [show decide (l.length % 2 = 0) = true from decide_eq_true (by omega), Bool.true_and, wrapI _ (by omega) (by omega), isSide_eq, show ((l.length : Int) / 2) = ((l.length / 2 : Nat) : Int) by omega]
  simp only [Option.bind_some]
  cases h2 : inB (l.length / 2 : Nat) 1 6 with
  | false =>
   refine Ev.ite_neg (by simp) ?_
   exact impl_IsPattern_j0 l true (by simp) hl
  | true =>
   refine Ev.ite_pos rfl ?_
   rw [wrapI _ (by omega) (by omega), Bool.true_and]
   unfold impl_areWithin.f
   simp only [Option.bind_some]
   cases h3 : (l.all fun x => inB x 0 (l.length - 1)) with
   | false =>
    exact impl_IsPattern_j0 l true (by simp) hl
   | true =>
    have := impl_IsPattern_j0 l false (fun _ => h3) hl
    simpa using this

theorem isPat_facts {l : List Int} (h : isPat l = true) : 2 ≤ l.length ∧ l.length ≤ 12 ∧ l.length % 2 = 0 ∧ (l.all fun x => inB x 0 (l.length - 1)) = true ∧
  ∀ i : Nat, i < l.length → 0 ≤ rd l i ∧ rd l i < l.length ∧ rd l i ≠ i ∧ rd l (rd l i) = i := by
 simp only [isPat, Bool.and_eq_true] at h
 have hb := (inB_iff _ _ _).1 h.2.1
 have he := of_decide_eq_true h.1
 refine ⟨by omega, by omega, he, h.2.2.1, fun i hi => ?_⟩
 have hx := all_mem h.2.2.1 i hi
 have hp := List.all_eq_true.1 h.2.2.2 i (by rw [List.mem_range'_1]; omega)
 simp only [patAt, Bool.and_eq_true, Bool.not_eq_true', beq_iff_eq, beq_eq_false_iff_ne] at hp
 exact ⟨by omega, by omega, hp.1.1, hp.1.2⟩

end Go.Proofs.Ythbkjaieenochaa.L

namespace Go.Proofs.Ythbkjaieenochaa.L
open Go.RowKit Go.Proofs.Ythbkjaieenochaa Go.Proofs.Ythbkjaieenochaa.P Go.Proofs.YthbkjaieenochaaW.PrintWords Go.Proofs.YthbkjaieenochaaW.PrintLast Go.Proofs.YthbkjaieenochaaW.PrintMore
set_option linter.unusedVariables false
set_option linter.unusedSimpArgs false

set_option maxHeartbeats 2000000 in
theorem swp_1.calls (p : List Int) (T : List (List Int)) (hs : isSign T = true) (A : Option Addr) (c g : Nat) (Ap : Option Addr) (cp : Nat) (W : World) (hx : W.cell? ⟨g, 0, none⟩ = some (.slice Ap p.length cp)) (hp : Kd.C (Kd.int .i64) W Ap p.length p) (hcp : p.length ≤ cp) (hC : Kd.C (Kd.slice 3 (Kd.int .i64)) W A T.length T) (hc : T.length ≤ c) (hpl : (patM T).length ≤ 1000) :
  Calls Try.prog 65 (#[.slice A T.length c] ++ #[.pointer (some ⟨g, 0, none⟩)]) W fun e w' => e = .returned (.bool (decide (patM T = p))) ∧ Below W.heap.size W w' := by
 obtain ⟨k, hk⟩ := (impl_pattern_ev hs).rounds
 have HP := Aside0.mk (fun W' (hb : Below W.heap.size W W') => impl_pattern.calls k A c T _ W' (Kd.C_below hC hb) hc hk)
 obtain ⟨q, hq⟩ : ∃ q, q = patM T := ⟨_, rfl⟩
 rw [← hq] at HP hpl ⊢
 have HR := Aside0.mk (fun W' Aq cq (hb : Below W.heap.size W W') h1 h2 => slices_Equal_int_int.calls 1001 Aq cq q Ap cp p _ W' h1 h2 (Kd.C_below hp hb) hcp (eqN q p hpl))
 obtain ⟨r, hr⟩ : ∃ r, r = decide (q = p) := ⟨_, rfl⟩
 rw [← hr] at HR ⊢
 have HX := Aside0.mk hx
 clear hs hp hC hk hq hr hpl
 go_enter Try.func65, Try.ntmps65
 go_wp2
 go_region_held3 (fun Wq => Wq.cell? ⟨g, 0, none⟩ = some (.slice Ap p.length cp) ∧ Below W.heap.size W Wq) (first | (have hh_ := ‹_ ∧ Below W.heap.size W _›; exact ⟨pw_cell_below hb4 hh_.1, below_step hh_.2 hb4⟩) | (refine ⟨hx, ?_⟩; repeat (first | exact Below.refl _ _ | apply below_drew))) (first
  | (go_at_call 51; have hh_ := ‹_ ∧ Below W.heap.size W _›; refine (HP.out _ hh_.2).mono ?_; (try clear hb4); clear hh_; rintro e w4 ⟨v, rfl, hR, hb4⟩; obtain ⟨Aq, cq, rfl⟩ := Kd.R_slice hR; have HPC := Aside0.mk (Kd.R_reads' hR).2.2; have HPL := Aside0.mk (Kd.R_reads' hR).2.1; have HPB := Aside0.mk (Below.refl w4.heap.size w4); clear hR)
  | (go_at_call 66; have hh_ := ‹_ ∧ Below W.heap.size W _›; refine (HR.out _ _ _ hh_.2 (Kd.C_below HPC.out (by repeat (first | exact HPB.out | apply below_drew))) HPL.out).mono ?_; (try clear hb4); clear hh_; rintro e w5 ⟨rfl, hd4⟩; have hb4 := hd4.below; clear hd4))
 all_goals
  go_wp2
  go_ret
  have hh_ := ‹_ ∧ Below W.heap.size W _›
  exact ⟨rfl, hh_.2⟩
set_option maxHeartbeats 2000000 in
set_option maxRecDepth 100000 in
theorem impl_allSigns.callsG (n gk : Nat) (lbk : Array Value) (cs : Nat → List (List (List Int))) (All : List (List (List Int))) (keep : List (List Int) → Bool) (hES : EachSigns n All)
  (eg : ∀ args w, (callFunc gk args).run Try.prog w = .ok (.enter gk args) w) (w : World)
  (hkp : ∀ (T : List (List Int)) (A : Option Addr) (c : Nat) (W : World), T ∈ All → (∀ k, k < w.heap.size → W.heap[k]? = w.heap[k]?) → Kd.C (Kd.slice 3 (Kd.int .i64)) W A T.length T → T.length ≤ c → Calls Try.prog gk (#[.slice A T.length c] ++ lbk) W fun e w' => e = .returned (.bool (keep T)) ∧ Below W.heap.size W w')
  (h0 : cs 0 = []) (hcs : ∀ (j : Nat) (T : List (List Int)), All[j]? = some T → cs (j + 1) = cs j ++ (if keep T = true then [T] else []))
  (hfew : ∀ T ∈ All, fewRows T) (hlen : ∀ j, (cs j).length ≤ 1000) :
  Calls Try.prog 64 #[.int .i64 n, .func (.func gk) #[] lbk] w fun e w' => ∃ v0_ : Value, e = .returned (v0_) ∧ Kd.S tabK 22 w' w.heap.size (fun _ => True) v0_ (cs All.length) ∧ Below w.heap.size w w' := by
 have egT : ∀ args w, (callFunc 96 args).run Try.prog w = .ok (.enter 96 args) w := enters_of Try.func96 (by kernel_rfl) rfl
 obtain ⟨W0, hW0⟩ : ∃ W0, W0 = ((w.alloc (.cells #[.func (.func gk) #[] lbk] 34)).alloc (.cells #[] 22)).alloc (.cells #[.slice (some ⟨w.heap.size + 1, 0, none⟩) 0 0] 39) := ⟨_, rfl⟩
 have hsz : W0.heap.size = w.heap.size + 1 + 1 + 1 := by rw [hW0]; simp
 have hb0 : Below w.heap.size w W0 := by rw [hW0]; exact below_alloc (below_alloc (below_alloc (Below.refl _ _) _) _) _
 have hf0 : W0.heap[w.heap.size]? = some (.cells #[.func (.func gk) #[] lbk] 34 (0, 0)) := by rw [hW0]; exact blk_alloc (blk_alloc (blk_new_at rfl) _) _
 have hI : W0.heap[w.heap.size + 1]? = some (.cells #[] 22 (0, 0)) := by rw [hW0]; exact blk_alloc (blk_new_at (by simp)) _
 have hbo : W0.heap[w.heap.size + 1 + 1]? = some (.cells #[.slice (some ⟨w.heap.size + 1, 0, none⟩) 0 0] 39 (0, 0)) := by rw [hW0]; exact blk_new_at (by simp)
 have hst : TbSt W0 (w.heap.size + 1) (w.heap.size + 1 + 1) cs 0 W0 (fun k => k < W0.heap.size) :=
  ⟨fun k hk => hk, fun k hk => hk, Nat.le_refl _, fun k _ => rfl, _, hbo, by rw [h0]; exact S_empty hI (Nat.le_refl _) ⟨by omega, by omega⟩⟩
 have hcall := hES 96 #[.pointer (some ⟨w.heap.size, 0, none⟩), .pointer (some ⟨w.heap.size + 1 + 1, 0, none⟩)] W0 (TbSt W0 (w.heap.size + 1) (w.heap.size + 1 + 1) cs) (TbSt.stays _ _ _ _ (by omega) (by omega)) egT
  (allSigns_1.calls W0 (w.heap.size + 1) w.heap.size (w.heap.size + 1 + 1) gk lbk cs All keep (by omega) (by omega) (by omega) hf0 eg (fun T A c W hT hlow hC hc => hkp T A c W hT (fun k hk => (hlow k (by omega)).trans (hb0.block k hk)) hC hc) hcs hfew hlen)
  (fun k => k < W0.heap.size) hst
 have HC := Aside0.mk hcall
 have HB0 := Aside0.mk hb0
 have HSZ := Aside0.mk hsz
 have HW0 := Aside0.mk hW0
 clear hcall hb0 hsz hW0 hf0 hI hbo h0 hcs hES egT hkp hfew hlen hst
 go_enter Try.func64, Try.ntmps64
 go_wp2_with (go_at_call 95; rw [← HW0.out]; refine HC.out.mono ?_; rintro e w5 ⟨rfl, ok5, hT5, ht5, ho5⟩; obtain ⟨v5, hc5, hR5⟩ := hT5.out; have hx5 : w5.cell? ⟨w.heap.size + 1 + 1, 0, none⟩ = some v5 := blk_cell hc5 0; have HL5 := Aside0.mk hT5.low; have HR5 := Aside0.mk hR5; have HT5 := Aside0.mk ht5; clear hT5 hR5 ht5 ho5 hc5)
 go_ret
 refine ⟨_, rfl, Kd.S_lower (Kd.S_mono HR5.out (fun _ _ => trivial)) (by omega), ⟨HT5.out.os.trans HB0.out.os, HT5.out.tape.trans HB0.out.tape, HT5.out.output.trans HB0.out.output, Nat.le_trans HB0.out.size HT5.out.size, fun k hk => (HL5.out k (by omega)).trans (HB0.out.block k hk)⟩⟩
/-- The tables that have a pattern. -/
def swL (p : List Int) (All : List (List (List Int))) (j : Nat) : List (List (List Int)) := (All.take j).filter (fun T => decide (patM T = p))
theorem swL_step (p : List Int) (All : List (List (List Int))) (j : Nat) (T : List (List Int)) (h : All[j]? = some T) : swL p All (j + 1) = swL p All j ++ (if decide (patM T = p) = true then [T] else []) := by
 unfold swL
 obtain ⟨hlt, he⟩ := List.getElem?_eq_some_iff.1 h
 rw [List.take_succ_eq_append_getElem hlt, List.filter_append, he]
 by_cases hq : patM T = p <;> simp [hq]
theorem swL_few (p : List Int) (All : List (List (List Int))) (h : All.length ≤ 1000) (j : Nat) : (swL p All j).length ≤ 1000 := by
 unfold swL
 have h1 := List.length_filter_le (fun T => decide (patM T = p)) (All.take j)
 rw [List.length_take] at h1
 omega
theorem swL_all (p : List Int) (All : List (List (List Int))) : swL p All All.length = All.filter (fun T => decide (patM T = p)) := by unfold swL; rw [List.take_length]
def swB (p : List Int) : Bool := isPat p && decide (p.length ≤ 8)
def swR (p : List Int) : List (List (List Int)) := if swB p = true then (esX (p.length / 2)).filter (fun T => decide (patM T = p)) else []
/-- What is read stays read where the blocks that were there stay. -/
theorem C_low {w W : World} {A : Option Addr} {p : List Int} (h : Kd.C (Kd.int .i64) w A p.length p) (hlow : ∀ k, k < w.heap.size → W.heap[k]? = w.heap[k]?) : Kd.C (Kd.int .i64) W A p.length p := by
 have hg := heap_grewE (Nat.le_refl w.heap.size) hlow
 have hb : Below w.heap.size w { W with os := w.os, tape := w.tape, output := w.output } := ⟨rfl, rfl, rfl, hg, hlow⟩
 have h2 := Kd.C_below h hb
 exact h2
theorem patM_fewI {m : List (List Int)} (hs : isSign m = true) : (patM m).length ≤ 1000 := by
 obtain ⟨h1, h2, _⟩ := isSign_facts hs
 unfold patM
 rw [List.length_map, (ends_all h1 h2).len]
 omega
theorem few_signI {l : List (List Int)} (hs : isSign l = true) : fewRows l := by
 obtain ⟨h1, h2, h3, _⟩ := isSign_facts hs
 refine ⟨by omega, fun r hr => ?_⟩
 obtain ⟨i, hi, rfl⟩ := List.getElem_of_mem hr
 have := h3 i hi
 rw [getD_at l [] i hi] at this
 omega
theorem cell_low {w W : World} {g : Nat} {v : Value} (h : w.cell? ⟨g, 0, none⟩ = some v) (he : W.heap[g]? = w.heap[g]?) : W.cell? ⟨g, 0, none⟩ = some v := by
 rw [← h]; unfold World.cell?; simp only [he]
/-- The tables that eachSigns gives. -/
structure SwOk (n : Nat) : Prop where
 sign : ∀ T ∈ esX n, isSign T = true
 len : (esX n).length ≤ 1000
set_option maxHeartbeats 2000000 in
set_option maxRecDepth 100000 in
theorem impl_SignsWithPattern.callsG (hok : ∀ n, 1 ≤ n → n ≤ 4 → SwOk n) (p : List Int) (A : Option Addr) (c : Nat) (w : World) (hp : Kd.C (Kd.int .i64) w A p.length p) (hc : p.length ≤ c) (hl : p.length ≤ 1048576) :
  Calls Try.prog 30 #[.slice A p.length c] w (RetTM w (swR p) (swB p)) := by
 obtain ⟨k1, hk1⟩ := (impl_IsPattern_ev p (by omega)).rounds
 have hb1 : Below w.heap.size w (w.alloc (.cells #[.slice A p.length c] 28)) := below_alloc (Below.refl _ _) _
 have HB1 := Aside0.mk hb1
 have hx : (w.alloc (.cells #[.slice A p.length c] 28)).cell? ⟨w.heap.size, 0, none⟩ = some (.slice A p.length c) := by rw [World.cell?_alloc_at _ _ _ _ rfl]; rfl
 have HIP := Aside0.mk (fun W (hb : Below w.heap.size w W) => impl_IsPattern.calls k1 A c p _ W (Kd.C_below hp hb) hc hk1)
 cases hi : isPat p with
 | false =>
  have e1 : swB p = false := by unfold swB; rw [hi]; rfl
  have e2 : swR p = [] := by unfold swR; rw [e1]; rfl
  rw [e1, e2]
  rw [hi] at HIP
  clear hok hp hl hk1 hi e1 e2 hb1
  go_enter Try.func30, Try.ntmps30
  go_wp2_with (go_at_call 63; refine (HIP.out _ HB1.out).mono ?_; rintro e w2 ⟨rfl, hd⟩; have hk2 := pw_cell_below hd hx; have HB2 := Aside0.mk (below_step HB1.out hd); clear hd)
  go_ret2
  exact ⟨_, rfl, Kd.S_nil _ _ _ _ _, HB2.out⟩
 | true =>
  rw [hi] at HIP
  obtain ⟨h1, h2, h3, _⟩ := isPat_facts hi
  by_cases h8 : p.length ≤ 8
  ·have e1 : swB p = true := by unfold swB; rw [hi, decide_eq_true h8]; rfl
   obtain ⟨m, hm⟩ : ∃ m, m = p.length / 2 := ⟨_, rfl⟩
   have e2 : swR p = swL p (esX m) (esX m).length := by unfold swR; rw [e1, if_pos rfl, swL_all, hm]
   have hO := hok m (by omega) (by omega)
   have hq : (p.length : Int) / 2 = (m : Int) := by omega
   have hz : ¬ (8 : Int) < (p.length : Int) := by omega
   rw [e1, e2]
   have eg : ∀ args w, (callFunc 65 args).run Try.prog w = .ok (.enter 65 args) w := enters_of Try.func65 (by kernel_rfl) rfl
   have HAS := Aside0.mk (fun W (hb : Below w.heap.size w W) (hy : W.cell? ⟨w.heap.size, 0, none⟩ = some (.slice A p.length c)) (hgs : w.heap.size < W.heap.size) => impl_allSigns.callsG m 65 #[.pointer (some ⟨w.heap.size, 0, none⟩)] (swL p (esX m)) (esX m) (fun T => decide (patM T = p)) (eachSigns_all (by omega) (by omega)) eg W
    (fun T A' c' W' hT hlow hC' hc' => swp_1.calls p T (hO.sign T hT) A' c' w.heap.size A c W' (cell_low hy (hlow _ hgs)) (C_low (Kd.C_below hp hb) hlow) hc hC' hc' (patM_fewI (hO.sign T hT)))
    (by unfold swL; rw [List.take_zero]; rfl) (swL_step p (esX m)) (fun T hT => few_signI (hO.sign T hT)) (swL_few p (esX m) hO.len))
   clear hok hp hl hk1 hi e1 e2 hb1 hO eg h1 h2 h3 hm
   go_enter Try.func30, Try.ntmps30
   go_wp2_with (first
    | (go_at_call 63; refine (HIP.out _ HB1.out).mono ?_; rintro e w2 ⟨rfl, hd⟩; have hk2 := pw_cell_below hd hx; have HB2 := Aside0.mk (below_step HB1.out hd); have HS2 := Aside0.mk (show w.heap.size < w2.heap.size by have := hd.size; simp at this; omega); have HK2 := Aside0.mk hk2; clear hd)
    | (go_at_call 64; refine (HAS.out _ HB2.out HK2.out HS2.out).mono ?_; rintro e w3 ⟨v, rfl, hS, hb⟩; have HS3 := Aside0.mk hS; have HB3 := Aside0.mk hb; clear hS hb))
   go_ret2
   exact ⟨_, rfl, Kd.S_lower HS3.out HB2.out.size, below_step HB2.out HB3.out⟩
  ·have e1 : swB p = false := by unfold swB; rw [hi, decide_eq_false h8]; rfl
   have e2 : swR p = [] := by unfold swR; rw [e1]; rfl
   have hz : (8 : Int) < (p.length : Int) := by omega
   rw [e1, e2]
   clear hok hp hl hk1 hi e1 e2 hb1 h1 h2 h3
   go_enter Try.func30, Try.ntmps30
   go_wp2_with (go_at_call 63; refine (HIP.out _ HB1.out).mono ?_; rintro e w2 ⟨rfl, hd⟩; have hk2 := pw_cell_below hd hx; have HB2 := Aside0.mk (below_step HB1.out hd); clear hd)
   go_ret2
   exact ⟨_, rfl, Kd.S_nil _ _ _ _ _, HB2.out⟩
end Go.Proofs.Ythbkjaieenochaa.L

namespace Go.Proofs.Ythbkjaieenochaa
open Go.RowKit Go.Proofs.Ythbkjaieenochaa.P Go.Proofs.Ythbkjaieenochaa.L Go.Proofs.YthbkjaieenochaaW.PrintWords Go.Proofs.YthbkjaieenochaaW.PrintLast Go.Proofs.YthbkjaieenochaaW.PrintMore
set_option linter.unusedVariables false
set_option maxRecDepth 100000

theorem es_few : (esX 1).length ≤ 1000 ∧ (esX 2).length ≤ 1000 ∧ (esX 3).length ≤ 1000 ∧ (esX 4).length ≤ 1000 ∧ (esX 5).length ≤ 1000 := by decide +kernel
theorem ta_all {n : Nat} (h0 : 1 ≤ n) (h1 : n ≤ 5) : taE 1000 [] [] n = some (esX n) ∧ (esX n).length ≤ 1000 := by
 have e : n = 1 ∨ n = 2 ∨ n = 3 ∨ n = 4 ∨ n = 5 := by omega
 rcases e with rfl | rfl | rfl | rfl | rfl
 ·exact ⟨ta_1, es_few.1⟩
 ·exact ⟨ta_2, es_few.2.1⟩
 ·exact ⟨ta_3, es_few.2.2.1⟩
 ·exact ⟨ta_4, es_few.2.2.2.1⟩
 ·exact ⟨ta_5, es_few.2.2.2.2⟩
theorem F_zero {α : Type} (d : Kd α) (W : World) (A : Option Addr) : Kd.F d W (fun _ => False) A 0 ([] : List α) := fun W' _ => ⟨rfl, by simp, fun h => absurd h (by simp)⟩
def spec_trAll.f (l0 : List Int) (l1 : List (List Int)) (a2 : Int) : Option (List (List (List Int))) := if l0 = [] ∧ l1 = [] ∧ 1 ≤ a2 ∧ a2 ≤ 5 then some (esX a2.toNat) else none
theorem spec_trAll.calls (A0 : Option Addr) (c0 : Nat) (l0 : List Int) (A1 : Option Addr) (c1 : Nat) (l1 : List (List Int)) (a2 : Int) (r : List (List (List Int))) (w : World) (hr0 : Kd.C (Kd.int .i64) w A0 l0.length l0) (hc0 : l0.length ≤ c0) (hr1 : Kd.C (Kd.slice 3 (Kd.int .i64)) w A1 l1.length l1) (hc1 : l1.length ≤ c1) (h : spec_trAll.f l0 l1 a2 = some r) :
  Calls Try.prog 60 #[.slice A0 l0.length c0, .slice A1 l1.length c1, .int .i64 a2] w fun e w' => ∃ v0_ : Value, e = .returned (v0_) ∧ Kd.N (Kd.slice 28 (Kd.slice 3 (Kd.int .i64))) 22 w' w.heap.size (fun k_ => (w.heap.size ≤ k_)) v0_ r ∧ Below w.heap.size w w' := by
 unfold spec_trAll.f at h
 split at h
 case isFalse => cases h
 rename_i hn
 obtain ⟨rfl, rfl, h1, h5⟩ := hn
 obtain rfl := Option.some.inj h
 obtain ⟨m, rfl⟩ := Int.eq_ofNat_of_zero_le (show 0 ≤ a2 by omega)
 rw [Int.toNat_natCast]
 obtain ⟨k1, k2⟩ := ta_all (n := m) (by omega) (by omega)
 refine (spec_trAll.callsG 1000 [] [] (m : Int) (esX m) A0 c0 A1 c1 w (fun _ => False) k1 (by omega) hr0 hc0 (F_zero _ _ _) hc1).mono ?_
 rintro e w' ⟨v, rfl, hN, hb⟩
 exact ⟨v, rfl, Kd.N_mono hN (fun k hk => hk.elim (fun h => h.elim) id), hb⟩
end Go.Proofs.Ythbkjaieenochaa
