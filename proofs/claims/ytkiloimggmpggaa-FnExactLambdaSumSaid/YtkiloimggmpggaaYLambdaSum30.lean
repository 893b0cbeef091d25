/- The program's LambdaSum answers as the reference's, for every table and number; the table stays as it was. -/
import Derived.Test.YtkiloimggmpggaaYLambdaSum29
namespace Go.Proofs.Ytkiloimggmpggaa.L
open Go.RowKit Go.Proofs.Ytkiloimggmpggaa Go.Proofs.Ytkiloimggmpggaa.P Go.Proofs.YtkiloimggmpggaaW.PrintWords Go.Proofs.YtkiloimggmpggaaW.PrintLast Go.Proofs.YtkiloimggmpggaaW.PrintMore
set_option linter.unusedVariables false
set_option maxRecDepth 100000

/-- What a sign matrix counts: few 1, few -1, few inversions. -/
def laT (n : Nat) (T : List (List Int)) : Bool := isSign T && (T.length == n) && decide (cT 1 T 0 ≤ 6) && decide (cT (-1) T 0 ≤ 2) && decide ((countsM T).length = 6) && decide (0 ≤ rd (countsM T) 0) && decide (rd (countsM T) 0 ≤ 6) && decide (0 ≤ rd (countsM T) 5) && decide (rd (countsM T) 5 ≤ 2)
def laOk (n : Nat) : Bool := decide (wgX n = esX n) && decide ((esX n).length ≤ 42) && (esX n).all (laT n)
theorem laOk_all {n : Nat} (h0 : 1 ≤ n) (h1 : n ≤ 4) : laOk n = true := by
 have e : n = 1 ∨ n = 2 ∨ n = 3 ∨ n = 4 := by omega
 rcases e with rfl | rfl | rfl | rfl
 ·decide +kernel
 ·decide +kernel
 ·decide +kernel
 ·decide +kernel
/-- The powers that come up. -/
def pwOk : Bool := ((List.range 5).all fun a => (List.range 7).all fun e => decide (0 ≤ pw (a : Int) e)) && ((List.range 4).all fun a => (List.range 7).all fun e => decide (pw (a : Int) e ≤ 729)) && ((List.range 5).all fun a => (List.range 3).all fun e => decide (pw (a : Int) e ≤ 16))
theorem pwOk_t : pwOk = true := by decide +kernel
theorem pw_x (a e : Nat) (ha : a ≤ 3) (he : e ≤ 6) : ∃ x : Nat, pw (a : Int) e = (x : Int) ∧ x ≤ 729 := by
 have h := pwOk_t
 simp only [pwOk, Bool.and_eq_true] at h
 have h1 := of_decide_eq_true (List.all_eq_true.1 (List.all_eq_true.1 h.1.1 a (List.mem_range.2 (by omega))) e (List.mem_range.2 (by omega)))
 have h2 := of_decide_eq_true (List.all_eq_true.1 (List.all_eq_true.1 h.1.2 a (List.mem_range.2 (by omega))) e (List.mem_range.2 (by omega)))
 exact ⟨(pw (a : Int) e).toNat, by omega, by omega⟩
theorem pw_y (a e : Nat) (ha : a ≤ 4) (he : e ≤ 2) : ∃ x : Nat, pw (a : Int) e = (x : Int) ∧ x ≤ 16 := by
 have h := pwOk_t
 simp only [pwOk, Bool.and_eq_true] at h
 have h1 := of_decide_eq_true (List.all_eq_true.1 (List.all_eq_true.1 h.1.1 a (List.mem_range.2 (by omega))) e (List.mem_range.2 (by omega)))
 have h2 := of_decide_eq_true (List.all_eq_true.1 (List.all_eq_true.1 h.2 a (List.mem_range.2 (by omega))) e (List.mem_range.2 (by omega)))
 exact ⟨(pw (a : Int) e).toNat, by omega, by omega⟩
/-- One sign matrix more, on both sides. -/
theorem la_step (n lam i : Nat) (t T : List (List Int)) (hn : t.length = n) (hn4 : n ≤ 4) (hlam : lam ≤ 3) (hT : laT n T = true) (hi : i ≤ 41)
  (hTr : ∀ i, i < n → (t.getD i []).length = n) (hTe : ∀ i j : Nat, i < n → j < n → 1 ≤ rd (t.getD i []) (j : Int) ∧ rd (t.getD i []) (j : Int) ≤ 4)
  (s : Q) (hsd : s.d ∣ 144) (hsp : 0 < s.d) (hsn : s.n ≤ i * 47775744 * s.d) :
  ∃ (c : List Int) (x y : Nat) (p q s2 : Q), s2.d ∣ 144 ∧ 0 < s2.d ∧ s2.n ≤ (i + 1) * 47775744 * s2.d ∧ spec_weCounts.f T = some c ∧ c.length = 6 ∧ wrap64 ((x : Int) * (y : Int)) = ((x * y : Nat) : Int) ∧
   Ev (fun k => spec_wePower.f k lam (rd c 0)) (x : Int) ∧ Ev (fun k => spec_wePower.f k (wrap64 (1 + lam)) (rd c 5)) (y : Int) ∧ Ev (fun k => spec_weRatio.f k ((x * y : Nat) : Int) 1) (((x * y : Nat) : Int), ((1 : Nat) : Int)) ∧
   Ev (fun k => spec_wePowerOf.f k T t) ((p.n : Int), (p.d : Int)) ∧ Ev (fun k => spec_weTimes.f k ((x * y : Nat) : Int) ((1 : Nat) : Int) p.n p.d) ((q.n : Int), (q.d : Int)) ∧ Ev (fun k => spec_wePlus.f k s.n s.d q.n q.d) ((s2.n : Int), (s2.d : Int)) ∧
   Ev (fun k => stepL k t lam T ((s.n : Int), (s.d : Int))) ((s2.n : Int), (s2.d : Int)) := by
 simp only [laT, Bool.and_eq_true, decide_eq_true_eq, beq_iff_eq] at hT
 obtain ⟨⟨⟨⟨⟨⟨⟨⟨hs, hl⟩, h1⟩, h2⟩, h6⟩, h00⟩, h01⟩, h50⟩, h51⟩ := hT
 obtain ⟨_, _, q3, _⟩ := isSign_facts hs
 obtain ⟨p, pn, pd, pp, e1, e2⟩ := powB T t (by omega) q3 (by omega) (fun i hi => by rw [hTr i (by omega)]; omega) (fun i j hi hj => hTe i j (by omega) (by omega)) h1 h2
 obtain ⟨c, hc⟩ : ∃ c, c = countsM T := ⟨_, rfl⟩
 rw [← hc] at h6 h00 h01 h50 h51
 obtain ⟨u, hu⟩ := Int.eq_ofNat_of_zero_le h00
 obtain ⟨v, hv⟩ := Int.eq_ofNat_of_zero_le h50
 have w1 : wrap64 (1 + (lam : Int)) = ((lam + 1 : Nat) : Int) := by rw [Int.add_comm]; exact wrapS lam (by omega)
 obtain ⟨x, hx, hx2⟩ := pw_x lam u hlam (by rw [hu] at h01; exact Int.ofNat_le.1 h01)
 obtain ⟨y, hy, hy2⟩ := pw_y (lam + 1) v (Nat.succ_le_succ hlam) (by rw [hv] at h51; exact Int.ofNat_le.1 h51)
 have hxy : x * y ≤ 729 * 16 := Nat.mul_le_mul hx2 hy2
 have pd2 := Nat.le_of_dvd (by decide) pd
 have ip : p.In 4096 144 := ⟨pn, pd2, pp⟩
 have if_ : (⟨x * y, 1⟩ : Q).In 11664 1 := ⟨hxy, Nat.le_refl _, Nat.one_pos⟩
 have iq := Q.mul_in if_ ip
 have hqd : ((⟨x * y, 1⟩ : Q).mul p).d ∣ 144 := by
  have e : ((⟨x * y, 1⟩ : Q).mul p).d = p.d / Nat.gcd (x * y) p.d * (1 / Nat.gcd p.n 1) := rfl
  rw [e, Nat.gcd_one_right, Nat.div_one, Nat.mul_one]
  exact Nat.dvd_trans (Nat.div_dvd_of_dvd (Nat.gcd_dvd_right _ _)) pd
 obtain ⟨q, hq⟩ : ∃ q, q = (⟨x * y, 1⟩ : Q).mul p := ⟨_, rfl⟩
 rw [← hq] at iq hqd
 have hqn : q.n ≤ 47775744 * q.d := Nat.le_trans iq.n (Nat.le_mul_of_pos_right _ iq.p)
 have hsd2 := Nat.le_of_dvd (by decide) hsd
 have isn : s.n ≤ 282068003520 := by
  have h3 : i * 47775744 ≤ 41 * 47775744 := Nat.mul_le_mul_right _ hi
  exact Nat.le_trans hsn (Nat.le_trans (Nat.mul_le_mul h3 hsd2) (by decide))
 have is : s.In 282068003520 144 := ⟨isn, hsd2, hsp⟩
 have iq2 : q.In 47775744 144 := ⟨iq.n, by have := iq.d; omega, iq.p⟩
 have e3 : Ev (fun k => impl_power.f k lam (rd c 0)) (x : Int) := by have := impl_power_ev (lam : Int) (rd c 0) (by omega); rw [hu, Int.toNat_natCast, hx] at this; rw [hu]; exact this
 have e4 : Ev (fun k => impl_power.f k (wrap64 (1 + lam)) (rd c 5)) (y : Int) := by have := impl_power_ev ((lam + 1 : Nat) : Int) (rd c 5) (by omega); rw [hv, Int.toNat_natCast, hy] at this; rw [hv, w1]; exact this
 have e5 : Ev (fun k => spec_wePower.f k lam (rd c 0)) (x : Int) := by have := spec_power_ev (lam : Int) (rd c 0) (by omega); rw [hu, Int.toNat_natCast, hx] at this; rw [hu]; exact this
 have e6 : Ev (fun k => spec_wePower.f k (wrap64 (1 + lam)) (rd c 5)) (y : Int) := by have := spec_power_ev ((lam + 1 : Nat) : Int) (rd c 5) (by omega); rw [hv, Int.toNat_natCast, hy] at this; rw [hv, w1]; exact this
 have hw : wrap64 ((x : Int) * (y : Int)) = ((x * y : Nat) : Int) := by rw [← Int.natCast_mul]; exact wrapN _ (by omega)
 have e7 := weRatio_Q (x * y) (Nat.le_trans hxy (by decide))
 have e8 : Ev (fun k => spec_weTimes.f k ((x * y : Nat) : Int) ((1 : Nat) : Int) p.n p.d) ((q.n : Int), (q.d : Int)) := by rw [hq]; exact weTimes_Q ⟨x * y, 1⟩ p if_ ip (by omega) (by omega) (by omega) (by omega) (by omega) (by omega)
 have e9 : Ev (fun k => impl_Ratio_times.f k p.n p.d ((x * y : Nat) : Int) ((1 : Nat) : Int)) ((q.n : Int), (q.d : Int)) := by rw [hq, Q.mul_comm]; exact times_Q p ⟨x * y, 1⟩ ip if_ (by omega) (by omega) (by omega) (by omega) (by omega) (by omega)
 have e10 := wePlus_Q s q is iq2 (by omega) (by omega)
 have e11 := plus_Q s q is iq2 (by omega) (by omega) (by omega) (by omega) (by omega) (by omega)
 refine ⟨c, x, y, p, q, s.add q, Q.add_dvd s q 144 hsp iq.p hsd hqd, (Q.add_in is iq2).p, ?_, ?_, h6, hw, e5, e6, e7, e1, e8, e10, ?_⟩
 ·have := Q.add_le s q (i * 47775744) 47775744 hsp iq.p hsn hqn
  rw [show (i + 1) * 47775744 = i * 47775744 + 47775744 by omega]
  exact this
 ·unfold spec_weCounts.f; rw [if_pos hs, hc]
 ·unfold stepL
  refine Ev.some_bind (a := c) (by unfold impl_kindCounts.f; rw [if_pos hs, hc]) (Ev.ite_pos h6 (Ev.bind e2 (Ev.bind e3 (Ev.bind e4 ?_))))
  rw [hw]
  exact Ev.bind e9 e11
theorem la_run (n lam : Nat) (t : List (List Int)) (All : List (List (List Int))) (hAll : All.length ≤ 42) (hA : ∀ T ∈ All, laT n T = true) (hn : t.length = n) (hn4 : n ≤ 4) (hlam : lam ≤ 3)
  (hTr : ∀ i, i < n → (t.getD i []).length = n) (hTe : ∀ i j : Nat, i < n → j < n → 1 ≤ rd (t.getD i []) (j : Int) ∧ rd (t.getD i []) (j : Int) ≤ 4) :
  ∀ (d i : Nat) (s : Q), i + d = All.length → s.d ∣ 144 → 0 < s.d → s.n ≤ i * 47775744 * s.d →
   ∃ r : Q, Ev (fun k => spec_LambdaSum.l0 k t lam All All.length i s.n s.d) ((r.n : Int), (r.d : Int), true) ∧ Ev (fun k => runL k t lam (All.drop i) ((s.n : Int), (s.d : Int))) ((r.n : Int), (r.d : Int)) := by
 intro d
 induction d with
 | zero =>
  intro i s hi h1 h2 h3
  refine ⟨s, ?_, ?_⟩
  ·refine Ev.step (fun k => by rw [spec_LambdaSum.l0]) ?_
   exact Ev.ite_neg (by omega) (Ev.now _)
  ·rw [List.drop_eq_nil_of_le (by omega)]
   unfold runL
   exact Ev.now _
 | succ d ih =>
  intro i s hi h1 h2 h3
  have hlt : i < All.length := by omega
  obtain ⟨c, x, y, p, q, s2, k1, k2, k3, k4, k5, k6, k7, k8, k9, k10, k11, k12, k13⟩ := la_step n lam i t All[i] hn hn4 hlam (hA _ (List.getElem_mem hlt)) (by omega) hTr hTe s h1 h2 h3
  obtain ⟨r, r1, r2⟩ := ih (i + 1) s2 (by omega) k1 k2 k3
  refine ⟨r, ?_, ?_⟩
  ·refine Ev.step (fun k => by rw [spec_LambdaSum.l0]) ?_
   have hx : rd_L2 All (i : Int) = All[i] := by simp [rd_L2, List.getD_eq_getElem?_getD, hlt]
   rw [hx, wrapS i (by omega)]
   refine Ev.ite_pos (by omega) (Ev.ite_pos (by omega) (Ev.ite_pos (by omega) (Ev.some_bind k4 (Ev.ite_pos (by omega) (Ev.bind k7 (Ev.ite_pos (by omega) (Ev.bind k8 ?_)))))))
   rw [k6]
   exact Ev.bind k9 (Ev.bind k10 (Ev.bind k11 (Ev.bind k12 r1)))
  ·rw [List.drop_eq_getElem_cons hlt]
   unfold runL
   exact Ev.bind k13 r2
end Go.Proofs.Ytkiloimggmpggaa.L
namespace Go.Proofs.Ytkiloimggmpggaa.Law
open Go.RowKit Go.Proofs.Ytkiloimggmpggaa Go.Proofs.Ytkiloimggmpggaa.P Go.Proofs.Ytkiloimggmpggaa.L Go.Proofs.YtkiloimggmpggaaW.PrintWords Go.Proofs.YtkiloimggmpggaaW.PrintLast Go.Proofs.YtkiloimggmpggaaW.PrintMore
set_option linter.unusedVariables false
/-- What a good table holds. -/
theorem weights_facts {t : List (List Int)} (hb : weightsB t = true) : (1 ≤ t.length ∧ t.length ≤ 4) ∧ (∀ i, i < t.length → (t.getD i []).length = t.length) ∧ ∀ i j : Nat, i < t.length → j < t.length → 1 ≤ rd (t.getD i []) (j : Int) ∧ rd (t.getD i []) (j : Int) ≤ 4 := by
 unfold weightsB squareB at hb
 simp only [Bool.and_eq_true] at hb
 obtain ⟨w1, w2, w3⟩ := hb
 have w4 := (inB_iff _ _ _).1 w1
 have hTr : ∀ i, i < t.length → (t.getD i []).length = t.length := fun i hi => by
  rw [getD_at t [] i hi]
  exact beq_iff_eq.1 (List.all_eq_true.1 w2 _ (List.getElem_mem hi))
 refine ⟨by omega, hTr, fun i j hi hj => ?_⟩
 have hlen := hTr i hi
 rw [getD_at t [] i hi] at hlen ⊢
 have h5 := List.all_eq_true.1 w3 _ (List.getElem_mem hi)
 rw [rd_at _ _ (by omega)]
 exact (inB_iff _ _ _).1 (List.all_eq_true.1 h5 _ (List.getElem_mem _))
theorem bothLambdaSum (t : List (List Int)) (a1 : Int) (hft : fewRows t) : ∃ (a b : Int) (c : Bool), Ev (fun k => spec_LambdaSum.f k t a1) (a, b, c) ∧ Ev (fun k => impl_LambdaSum.f k t a1) (a, b, c) := by
 unfold spec_LambdaSum.f impl_LambdaSum.f impl_isCondensed.f
 have hg := weTable_ev t hft
 have j1 : Ev (fun k => spec_LambdaSum.j0 k t a1 true) (0, 0, false) := by
  refine Ev.step (fun k => by rw [spec_LambdaSum.j0]) ?_
  exact Ev.ite_pos rfl (Ev.now _)
 cases hb : weightsB t with
 | false =>
  have e2 : impl_isWeights.f t = some false := by unfold impl_isWeights.f; rw [hb]
  exact ⟨0, 0, false, Ev.bind (hb ▸ hg) (Ev.ite_neg (by simp) j1), Ev.some_bind (a := false) (by rw [e2]; rfl) (Ev.ite_neg (by simp) (Ev.now _))⟩
 | true =>
  have e2 : impl_isWeights.f t = some true := by unfold impl_isWeights.f; rw [hb]
  cases hi : inB a1 0 3 with
  | false =>
   refine ⟨0, 0, false, Ev.bind (hb ▸ hg) (Ev.ite_pos rfl (Ev.some_bind (a := false) (by rw [l1In_eq, hi]) j1)), Ev.some_bind (a := false) ?_ (Ev.ite_neg (by simp) (Ev.now _))⟩
   rw [e2]
   show (if true = true then (impl_within.f a1 0 3).bind (fun b => some b) else some false) = _
   rw [if_pos rfl, show impl_within.f a1 0 3 = some (inB a1 0 3) from rfl, hi]; rfl
  | true =>
   have hi2 := (inB_iff _ _ _).1 hi
   obtain ⟨lam, rfl⟩ := Int.eq_ofNat_of_zero_le hi2.1
   obtain ⟨h4, hTr, hTe⟩ := weights_facts hb
   have hla := laOk_all h4.1 h4.2
   simp only [laOk, Bool.and_eq_true, decide_eq_true_eq] at hla
   obtain ⟨⟨hwe, hlen⟩, hall⟩ := hla
   obtain ⟨r, r1, r2⟩ := la_run t.length lam t (esX t.length) hlen (fun T hT => List.all_eq_true.1 hall T hT) rfl h4.2 (by omega) hTr hTe (esX t.length).length 0 ⟨0, 1⟩ (by omega) (by decide) (by decide) (by simp)
   refine ⟨r.n, r.d, true, Ev.bind (hb ▸ hg) (Ev.ite_pos rfl (Ev.some_bind (a := true) (by rw [l1In_eq, hi]) ?_)), Ev.some_bind (a := true) ?_ (Ev.ite_pos rfl (Ev.ite_pos h4 ?_))⟩
   ·refine Ev.step (fun k => by rw [spec_LambdaSum.j0]) ?_
    refine Ev.ite_neg (by simp) (Ev.some_bind (a := esX t.length) ?_ r1)
    unfold spec_weAll.f
    rw [if_pos (by omega), Int.toNat_natCast, hwe]
   ·rw [e2]
    show (if true = true then (impl_within.f (lam : Int) 0 3).bind (fun b => some b) else some false) = _
    rw [if_pos rfl, show impl_within.f (lam : Int) 0 3 = some (inB (lam : Int) 0 3) from rfl, hi]; rfl
   ·rw [List.drop_zero] at r2
    exact Ev.bind r2 (Ev.now _)
theorem pureLambdaSum (t : List (List Int)) (a1 : Int) (u : Int) (hu : Ev (fun k => laws_szIntSS.f k t 1048576) u) (hd : u < 0 ∨ fewRows t) : ∃ k, laws_FnExactLambdaSum.f k t a1 = some true := by
 refine Ev.rounds ?_
 unfold laws_FnExactLambdaSum.f
 refine Ev.bind hu ?_
 by_cases hn : u < 0
 ·exact Ev.ite_pos hn (Ev.now _)
 ·have hf := hd.resolve_left hn
  obtain ⟨a, b, c, e1, e2⟩ := bothLambdaSum t a1 hf
  have ht := toIntSS_eq t hf.ok
  refine Ev.ite_neg hn (Ev.some_bind ht (Ev.bind e1 (Ev.some_bind ht (Ev.bind e2 (Ev.some_bind (a := true) (by unfold laws_eqRatio.f; rw [if_pos rfl, if_pos rfl]) (Ev.ite_pos rfl ?_))))))
  refine Ev.step (fun k => by rw [laws_FnExactLambdaSum.j0]) ?_
  exact Ev.ite_neg (by simp) (Ev.some_bind ht (Ev.bind (eqIntSS t hf.ok) (Ev.ite_pos rfl (Ev.now _))))
theorem FnExactLambdaSum (A : Option Addr) (cap : Nat) (l : List (List Int)) {W0 : World} (h : RowsIn W0 A l.length cap l) (a1 : Int) (_h1 : (Lit.int .i64 a1).wf = true) (W : World) (hW : W = W0) :
  Calls Try.prog 3 #[.slice A l.length cap, .int .i64 a1] W fun e w' => e = .returned (.bool true) ∧ Below W.heap.size W w' := by
 subst hW
 obtain ⟨t, ht, hd⟩ := szIntSS_in h
 obtain ⟨k, hk⟩ := pureLambdaSum l a1 t ht hd
 exact laws_FnExactLambdaSum.calls k A cap l a1 true W h.read h.le hk
end Go.Proofs.Ytkiloimggmpggaa.Law
