/- The program's PowerOf answers as the reference's PowerOf, for all matrices and tables; both stay as they were (the walk of the law FnExactPowerOf; no condition). -/
import Derived.Test.YtlpadkbpbmoliaaHP1
import Derived.Test.YtlpadkbpbmoliaaHR
import Derived.Test.YtlpadkbpbmoliaaPx6
namespace Go.Proofs.Ytlpadkbpbmoliaa.L
open Go.RowKit Go.Proofs.Ytlpadkbpbmoliaa Go.Proofs.Ytlpadkbpbmoliaa.P Go.Proofs.YtlpadkbpbmoliaaW.PrintWords Go.Proofs.YtlpadkbpbmoliaaW.PrintLast Go.Proofs.YtlpadkbpbmoliaaW.PrintMore
set_option linter.unusedVariables false

theorem gcd_step (a b : Nat) (hb : 0 < b) : Nat.gcd b (a % b) = Nat.gcd a b := by
  rw [Nat.gcd_comm a b, Nat.gcd_rec b a, Nat.gcd_comm]
theorem tmod_nat (a b : Nat) : Int.tmod (a : Int) (b : Int) = ((a % b : Nat) : Int) := by
  rw [Int.tmod_eq_emod_of_nonneg (by omega)]; rfl
theorem tdiv_nat (a b : Nat) : Int.tdiv (a : Int) (b : Int) = ((a / b : Nat) : Int) := by
  rw [Int.tdiv_eq_ediv_of_nonneg (by omega)]; rfl
theorem common_ev : ∀ (b a : Nat), Ev (fun k => impl_common.l0 k a b) ((Nat.gcd a b : Nat) : Int) := by
  intro b
  induction b using Nat.strongRecOn with
  | _ b ih =>
    intro a
    refine Ev.step (fun k => by rw [impl_common.l0]) ?_
    by_cases hb : b = 0
    · subst hb
      rw [Nat.gcd_zero_right]
      exact Ev.ite_neg (by omega) (Ev.now _)
    · have hp : 0 < b := by omega
      refine Ev.ite_pos (by omega) (Ev.ite_neg (by omega) ?_)
      rw [tmod_nat, ← gcd_step a b hp]
      exact ih (a % b) (Nat.mod_lt _ hp) b
theorem sgGcd_ev : ∀ (b a : Nat), Ev (fun k => spec_sgGcd.f k a b) ((Nat.gcd a b : Nat) : Int) := by
  intro b
  induction b using Nat.strongRecOn with
  | _ b ih =>
    intro a
    refine Ev.step (fun k => by rw [spec_sgGcd.f]) ?_
    by_cases hb : b = 0
    · subst hb
      rw [Nat.gcd_zero_right]
      exact Ev.ite_pos rfl (Ev.now _)
    · have hp : 0 < b := by omega
      refine Ev.ite_neg (by omega) ?_
      rw [tmod_nat, ← gcd_step a b hp]
      exact Ev.bind (ih (a % b) (Nat.mod_lt _ hp) b) (Ev.now _)
theorem wrapN (a : Nat) (h : a ≤ 9223372036854775807) : wrap64 (a : Int) = (a : Int) := wrapI _ (by omega) (by omega)
theorem ratio_ev (n d : Nat) (hd : 0 < d) (bn : n ≤ 1000000000000000000) (bd : d ≤ 1000000000000000000) : Ev (fun k => impl_ratio.f k n d) (((n / Nat.gcd n d : Nat) : Int), ((d / Nat.gcd n d : Nat) : Int)) := by
  unfold impl_ratio.f impl_common.f
  have hg : 0 < Nat.gcd n d := Nat.gcd_pos_of_pos_right _ hd
  have h1 := Nat.div_le_self n (Nat.gcd n d)
  have h2 := Nat.div_le_self d (Nat.gcd n d)
  refine Ev.bind (common_ev d n) (Ev.ite_neg (by omega) ?_)
  rw [tdiv_nat, tdiv_nat, wrapN _ (by omega), wrapN _ (by omega)]
  exact Ev.now _
theorem weRatio_ev (n d : Nat) (hd : 0 < d) (bn : n ≤ 1000000000000000000) (bd : d ≤ 1000000000000000000) : Ev (fun k => spec_weRatio.f k n d) (((n / Nat.gcd n d : Nat) : Int), ((d / Nat.gcd n d : Nat) : Int)) := by
  unfold spec_weRatio.f
  have hg : 0 < Nat.gcd n d := Nat.gcd_pos_of_pos_right _ hd
  have h1 := Nat.div_le_self n (Nat.gcd n d)
  have h2 := Nat.div_le_self d (Nat.gcd n d)
  have ha : spec_l1Abs.f (n : Int) = some (n : Int) := by
    unfold spec_l1Abs.f spec_l1Most.f
    rw [wrapI (-(n : Int)) (by omega) (by omega)]
    by_cases h0 : (n : Int) > -(n : Int)
    · simp [h0]
    · have : n = 0 := by omega
      subst this; simp
  rw [ha]
  refine Ev.some_bind rfl (Ev.bind (sgGcd_ev d n) (Ev.ite_neg (by omega) ?_))
  rw [tdiv_nat, tdiv_nat, wrapN _ (by omega), wrapN _ (by omega)]
  exact Ev.now _
/-- A fraction without common divisors. -/
def redN (n d : Nat) : Int := ((n / Nat.gcd n d : Nat) : Int)
def redD (n d : Nat) : Int := ((d / Nat.gcd n d : Nat) : Int)
theorem times_nat (N D k : Nat) (hD : 0 < D) : let g := Nat.gcd N D; let q := Nat.gcd k (D / g); N / g * (k / q) = N * k / Nat.gcd (N * k) D ∧ D / g / q = D / Nat.gcd (N * k) D := by
  intro g q
  have hg : 0 < g := Nat.gcd_pos_of_pos_right _ hD
  obtain ⟨n, hn⟩ := Nat.gcd_dvd_left N D
  obtain ⟨d, hd⟩ := Nat.gcd_dvd_right N D
  have hN : N = g * n := hn
  have hDD : D = g * d := hd
  have hNg : N / g = n := by rw [hN, Nat.mul_div_cancel_left _ hg]
  have hDg : D / g = d := by rw [hDD, Nat.mul_div_cancel_left _ hg]
  have hc : Nat.Coprime n d := by rw [← hNg, ← hDg]; exact Nat.coprime_div_gcd_div_gcd hg
  have hq : q = Nat.gcd k d := by show Nat.gcd k (D / g) = _; rw [hDg]
  have hdp : 0 < d := Nat.pos_of_ne_zero (fun h => by rw [h, Nat.mul_zero] at hDD; omega)
  have hqp : 0 < q := by rw [hq]; exact Nat.gcd_pos_of_pos_right _ hdp
  have e : Nat.gcd (N * k) D = g * q := by
    rw [hq]
    have : Nat.gcd (N * k) D = Nat.gcd (g * (n * k)) (g * d) := by rw [← Nat.mul_assoc, ← hN, ← hDD]
    rw [this, Nat.gcd_mul_left, Nat.Coprime.gcd_mul_left_cancel _ hc]
  refine ⟨?_, ?_⟩
  · rw [e, hNg]
    have : N * k / (g * q) = g * (n * k) / (g * q) := by rw [← Nat.mul_assoc, ← hN]
    rw [this, Nat.mul_div_mul_left _ _ hg, Nat.mul_div_assoc _ (by rw [hq]; exact Nat.gcd_dvd_left k d)]
  · rw [e, Nat.div_div_eq_div_mul]
theorem over_nat (N D k : Nat) (hD : 0 < D) (hN0 : 0 < N) : let g := Nat.gcd N D; let q := Nat.gcd (N / g) k; N / g / q = N / Nat.gcd N (D * k) ∧ k / q * (D / g) = D * k / Nat.gcd N (D * k) := by
  intro g q
  have hg : 0 < g := Nat.gcd_pos_of_pos_right _ hD
  obtain ⟨n, hn⟩ := Nat.gcd_dvd_left N D
  obtain ⟨d, hd⟩ := Nat.gcd_dvd_right N D
  have hN : N = g * n := hn
  have hDD : D = g * d := hd
  have hNg : N / g = n := by rw [hN, Nat.mul_div_cancel_left _ hg]
  have hDg : D / g = d := by rw [hDD, Nat.mul_div_cancel_left _ hg]
  have hc : Nat.Coprime n d := by rw [← hNg, ← hDg]; exact Nat.coprime_div_gcd_div_gcd hg
  have hq : q = Nat.gcd n k := by show Nat.gcd (N / g) k = _; rw [hNg]
  have e : Nat.gcd N (D * k) = g * q := by
    rw [hq]
    have : Nat.gcd N (D * k) = Nat.gcd (g * n) (g * (d * k)) := by rw [← Nat.mul_assoc, ← hN, ← hDD]
    rw [this, Nat.gcd_mul_left, Nat.Coprime.gcd_mul_left_cancel_right _ hc.symm]
  refine ⟨?_, ?_⟩
  · rw [e, Nat.div_div_eq_div_mul]
  · rw [e, hDg]
    have : D * k / (g * q) = g * (d * k) / (g * q) := by rw [← Nat.mul_assoc, ← hDD]
    rw [this, Nat.mul_div_mul_left _ _ hg, Nat.mul_div_assoc _ (by rw [hq]; exact Nat.gcd_dvd_right n k), Nat.mul_comm]
theorem times_ev (N D k : Nat) (hN : 0 < N) (hD : 0 < D) (hk : 0 < k) (bN : N * k ≤ 1000000000000000000) (bD : D ≤ 1000000000000000000) (bk : k ≤ 100) : Ev (fun q => impl_Ratio_times.f q (redN N D) (redD N D) k 1) (redN (N * k) D, redD (N * k) D) := by
  unfold impl_Ratio_times.f redN redD
  have hg : 0 < Nat.gcd N D := Nat.gcd_pos_of_pos_right _ hD
  have hNk : N ≤ N * k := Nat.le_mul_of_pos_right _ hk
  have h1 := Nat.div_le_self N (Nat.gcd N D)
  have h2 := Nat.div_le_self D (Nat.gcd N D)
  have hdp : 0 < D / Nat.gcd N D := Nat.div_pos (Nat.le_of_dvd hD (Nat.gcd_dvd_right N D)) hg
  obtain ⟨e1, e2⟩ := times_nat N D k hD
  have r1 := ratio_ev (N / Nat.gcd N D) 1 (by omega) (by omega) (by omega)
  rw [Nat.gcd_one_right, Nat.div_one, Nat.div_one] at r1
  have r2 := ratio_ev k (D / Nat.gcd N D) hdp (by omega) (by omega)
  refine Ev.bind r1 (Ev.bind r2 ?_)
  have h3 := Nat.div_le_self (N * k) (Nat.gcd (N * k) D)
  have h4 := Nat.div_le_self D (Nat.gcd (N * k) D)
  have f1 : ((N / Nat.gcd N D : Nat) : Int) * ((k / Nat.gcd k (D / Nat.gcd N D) : Nat) : Int) = ((N * k / Nat.gcd (N * k) D : Nat) : Int) := by rw [← Int.natCast_mul]; exact congrArg _ e1
  have f2 : ((1 : Nat) : Int) * ((D / Nat.gcd N D / Nat.gcd k (D / Nat.gcd N D) : Nat) : Int) = ((D / Nat.gcd (N * k) D : Nat) : Int) := by rw [← Int.natCast_mul, Nat.one_mul]; exact congrArg _ e2
  rw [f1, f2, wrapN _ (by omega), wrapN _ (by omega)]
  exact Ev.now _
theorem over_ev (N D k : Nat) (hN : 0 < N) (hD : 0 < D) (hk : 0 < k) (bN : N ≤ 1000000000000000000) (bD : D * k ≤ 1000000000000000000) (bk : k ≤ 100) : Ev (fun q => impl_Ratio_over.f q (redN N D) (redD N D) k 1) (redN N (D * k), redD N (D * k)) := by
  have main : Ev (fun q => impl_Ratio_times.f q (redN N D) (redD N D) 1 k) (redN N (D * k), redD N (D * k)) := by
    unfold impl_Ratio_times.f redN redD
    have hg : 0 < Nat.gcd N D := Nat.gcd_pos_of_pos_right _ hD
    have hDk : D ≤ D * k := Nat.le_mul_of_pos_right _ hk
    have h1 := Nat.div_le_self N (Nat.gcd N D)
    have h2 := Nat.div_le_self D (Nat.gcd N D)
    have hdp : 0 < D / Nat.gcd N D := Nat.div_pos (Nat.le_of_dvd hD (Nat.gcd_dvd_right N D)) hg
    obtain ⟨e1, e2⟩ := over_nat N D k hD hN
    have r1 := ratio_ev (N / Nat.gcd N D) k hk (by omega) (by omega)
    have r2 := ratio_ev 1 (D / Nat.gcd N D) hdp (by omega) (by omega)
    rw [Nat.gcd_one_left, Nat.div_one, Nat.div_one] at r2
    refine Ev.bind r1 (Ev.bind r2 ?_)
    have h3 := Nat.div_le_self N (Nat.gcd N (D * k))
    have h4 := Nat.div_le_self (D * k) (Nat.gcd N (D * k))
    have f1 : ((N / Nat.gcd N D / Nat.gcd (N / Nat.gcd N D) k : Nat) : Int) * ((1 : Nat) : Int) = ((N / Nat.gcd N (D * k) : Nat) : Int) := by rw [← Int.natCast_mul, Nat.mul_one]; exact congrArg _ e1
    have f2 : ((k / Nat.gcd (N / Nat.gcd N D) k : Nat) : Int) * ((D / Nat.gcd N D : Nat) : Int) = ((D * k / Nat.gcd N (D * k) : Nat) : Int) := by rw [← Int.natCast_mul]; exact congrArg _ e2
    rw [f1, f2, wrapN _ (by omega), wrapN _ (by omega)]
    exact Ev.now _
  unfold impl_Ratio_over.f
  exact Ev.bind main (Ev.now _)
theorem four_pow (e : Nat) (h : e ≤ 16) : 4 ^ e ≤ 4294967296 := Nat.le_trans (Nat.pow_le_pow_right (by decide) h) (by decide)
theorem powerOf_l1 (m T : List (List Int)) (i : Nat) (hi : i < m.length) (hm4 : m.length ≤ 4) (hml : (m.getD i []).length = m.length) (hTl : T.length = m.length) (hTr : (T.getD i []).length = m.length) (hTe : ∀ j : Nat, j < m.length → 1 ≤ rd (T.getD i []) (j : Int) ∧ rd (T.getD i []) (j : Int) ≤ 4)
    (hr : ∀ N D : Nat, 0 < N → 0 < D → N ≤ 4 ^ (4 * (i + 1)) → D ≤ 4 ^ (4 * (i + 1)) → ∃ r, Ev (fun k => spec_wePowerOf.l0 k T N D m m.length ((i + 1 : Nat) : Int)) r ∧ Ev (fun k => impl_powerOf.l0 k T m m.length ((i + 1 : Nat) : Int) (redN N D) (redD N D)) r) :
    ∀ (d j N D : Nat), j + d = m.length → 0 < N → 0 < D → N ≤ 4 ^ (4 * i + j) → D ≤ 4 ^ (4 * i + j) →
      ∃ r, Ev (fun k => spec_wePowerOf.l1 k T N D i m m.length i (m.getD i []) (m.getD i []).length j) r ∧ Ev (fun k => impl_powerOf.l1 k T i m m.length i (m.getD i []) (m.getD i []).length j (redN N D) (redD N D)) r := by
  intro d
  induction d with
  | zero =>
    intro j N D hj hN hD bN bD
    have hp : 4 ^ (4 * i + j) ≤ 4 ^ (4 * (i + 1)) := Nat.pow_le_pow_right (by decide) (by omega)
    obtain ⟨r, h1, h2⟩ := hr N D hN hD (by omega) (by omega)
    refine ⟨r, ?_, ?_⟩
    · refine Ev.step (fun k => by rw [spec_wePowerOf.l1]) ?_
      rw [wrapS i (by omega)]
      exact Ev.ite_neg (by omega) h1
    · refine Ev.step (fun k => by rw [impl_powerOf.l1]) ?_
      rw [wrapS i (by omega)]
      exact Ev.ite_neg (by omega) h2
  | succ d ih =>
    intro j N D hj hN hD bN bD
    have hp := four_pow (4 * i + j) (by omega)
    have hps : 4 ^ (4 * i + (j + 1)) = 4 ^ (4 * i + j) * 4 := by rw [← Nat.add_assoc, Nat.pow_succ]
    obtain ⟨hk1, hk2⟩ := hTe j (by omega)
    obtain ⟨e, he⟩ : ∃ e : Nat, rd (T.getD i []) (j : Int) = (e : Int) := ⟨(rd (T.getD i []) (j : Int)).toNat, by omega⟩
    have he1 : 0 < e := by omega
    have he4 : e ≤ 4 := by omega
    have hNe : N * e ≤ 4 ^ (4 * i + j) * 4 := Nat.mul_le_mul bN he4
    have hDe : D * e ≤ 4 ^ (4 * i + j) * 4 := Nat.mul_le_mul bD he4
    have hTT : rd_L1 T (i : Int) = T.getD i [] := rd1_get T i
    by_cases c1 : rd (m.getD i []) (j : Int) = 1
    · obtain ⟨r, h1, h2⟩ := ih (j + 1) (N * e) D (by omega) (Nat.mul_pos hN he1) hD (by omega) (by omega)
      refine ⟨r, ?_, ?_⟩
      · refine Ev.step (fun k => by rw [spec_wePowerOf.l1]) ?_
        rw [hTT, he, ← Int.natCast_mul, wrapN (N * e) (by omega), wrapS j (by omega)]
        exact Ev.ite_pos (by omega) (Ev.ite_pos (by omega) (Ev.ite_pos (by omega) (Ev.ite_pos c1 (Ev.ite_pos (by omega) (Ev.ite_pos (by omega) (Ev.ite_pos (by omega) h1))))))
      · refine Ev.step (fun k => by rw [impl_powerOf.l1]) ?_
        rw [hTT, he, wrapS j (by omega)]
        exact Ev.ite_pos (by omega) (Ev.ite_pos (by omega) (Ev.ite_pos (by omega) (Ev.ite_pos c1 (Ev.ite_pos (by omega) (Ev.ite_pos (by omega) (Ev.ite_pos (by omega) (Ev.bind (times_ev N D e hN hD he1 (by omega) (by omega) (by omega)) h2)))))))
    · by_cases c2 : rd (m.getD i []) (j : Int) = -1
      · obtain ⟨r, h1, h2⟩ := ih (j + 1) N (D * e) (by omega) hN (Nat.mul_pos hD he1) (by omega) (by omega)
        refine ⟨r, ?_, ?_⟩
        · refine Ev.step (fun k => by rw [spec_wePowerOf.l1]) ?_
          rw [hTT, he, ← Int.natCast_mul, ← Int.natCast_mul, wrapN (D * e) (by omega), wrapS j (by omega)]
          exact Ev.ite_pos (by omega) (Ev.ite_pos (by omega) (Ev.ite_pos (by omega) (Ev.ite_neg c1 (Ev.ite_pos c2 (Ev.ite_pos (by omega) (Ev.ite_pos (by omega) (Ev.ite_pos (by omega) h1)))))))
        · refine Ev.step (fun k => by rw [impl_powerOf.l1]) ?_
          rw [hTT, he, wrapS j (by omega)]
          exact Ev.ite_pos (by omega) (Ev.ite_pos (by omega) (Ev.ite_pos (by omega) (Ev.ite_neg c1 (Ev.ite_pos c2 (Ev.ite_pos (by omega) (Ev.ite_pos (by omega) (Ev.ite_pos (by omega) (Ev.bind (over_ev N D e hN hD he1 (by omega) (by omega) (by omega)) h2))))))))
      · obtain ⟨r, h1, h2⟩ := ih (j + 1) N D (by omega) hN hD (by omega) (by omega)
        refine ⟨r, ?_, ?_⟩
        · refine Ev.step (fun k => by rw [spec_wePowerOf.l1]) ?_
          rw [wrapS j (by omega)]
          exact Ev.ite_pos (by omega) (Ev.ite_pos (by omega) (Ev.ite_pos (by omega) (Ev.ite_neg c1 (Ev.ite_neg c2 h1))))
        · refine Ev.step (fun k => by rw [impl_powerOf.l1]) ?_
          rw [wrapS j (by omega)]
          exact Ev.ite_pos (by omega) (Ev.ite_pos (by omega) (Ev.ite_pos (by omega) (Ev.ite_neg c1 (Ev.ite_neg c2 h2))))
theorem powerOf_l0 (m T : List (List Int)) (hm4 : m.length ≤ 4) (hm : ∀ i, i < m.length → (m.getD i []).length = m.length) (hTl : T.length = m.length) (hTr : ∀ i, i < m.length → (T.getD i []).length = m.length) (hTe : ∀ i j : Nat, i < m.length → j < m.length → 1 ≤ rd (T.getD i []) (j : Int) ∧ rd (T.getD i []) (j : Int) ≤ 4) :
    ∀ (d i N D : Nat), i + d = m.length → 0 < N → 0 < D → N ≤ 4 ^ (4 * i) → D ≤ 4 ^ (4 * i) →
      ∃ r, Ev (fun k => spec_wePowerOf.l0 k T N D m m.length i) r ∧ Ev (fun k => impl_powerOf.l0 k T m m.length i (redN N D) (redD N D)) r := by
  intro d
  induction d with
  | zero =>
    intro i N D hi hN hD bN bD
    have hp := four_pow (4 * i) (by omega)
    refine ⟨(redN N D, redD N D), ?_, ?_⟩
    · refine Ev.step (fun k => by rw [spec_wePowerOf.l0]) ?_
      exact Ev.ite_neg (by omega) (Ev.bind (weRatio_ev N D hD (by omega) (by omega)) (Ev.now _))
    · refine Ev.step (fun k => by rw [impl_powerOf.l0]) ?_
      exact Ev.ite_neg (by omega) (Ev.now _)
  | succ d ih =>
    intro i N D hi hN hD bN bD
    have hlt : i < m.length := by omega
    obtain ⟨r, h1, h2⟩ := powerOf_l1 m T i hlt hm4 (hm i hlt) hTl (hTr i hlt) (fun j hj => hTe i j hlt hj) (fun N D a b c e => ih (i + 1) N D (by omega) a b c e) m.length 0 N D (by omega) hN hD (by rw [Nat.add_zero]; exact bN) (by rw [Nat.add_zero]; exact bD)
    refine ⟨r, ?_, ?_⟩
    · refine Ev.step (fun k => by rw [spec_wePowerOf.l0]) ?_
      rw [rd1_get]
      exact Ev.ite_pos (by omega) (Ev.ite_pos (by omega) (Ev.ite_pos (by omega) h1))
    · refine Ev.step (fun k => by rw [impl_powerOf.l0]) ?_
      rw [rd1_get]
      exact Ev.ite_pos (by omega) (Ev.ite_pos (by omega) (Ev.ite_pos (by omega) h2))
theorem rows_all_and (l : List (List Int)) (p q : List Int → Bool) : (l.all p && l.all q) = l.all fun x => p x && q x := by
  induction l with
  | nil => rfl
  | cons a r ih => rw [List.all_cons, List.all_cons, List.all_cons, ← ih]; cases p a <;> cases q a <;> simp
theorem weTable_l0 (t : List (List Int)) (hf : fewRows t) : ∀ (d i : Nat), i + d = t.length → Ev (fun k => spec_weTable.l0 k t t t.length i) ((t.drop i).all fun r => (r.length == t.length) && r.all fun x => inB x 1 4) := by
  have hl := hf.1
  intro d
  induction d with
  | zero =>
    intro i hi
    refine Ev.step (fun k => by rw [spec_weTable.l0]) ?_
    rw [List.drop_eq_nil_of_le (by omega)]
    exact Ev.ite_neg (by omega) (Ev.now _)
  | succ d ih =>
    intro i hi
    have hlt : i < t.length := by omega
    have hr := hf.2 _ (List.getElem_mem hlt)
    refine Ev.step (fun k => by rw [spec_weTable.l0]) ?_
    rw [rd1_at t i hlt, List.drop_eq_getElem_cons hlt, List.all_cons, wrapS i (by omega)]
    refine Ev.ite_pos (by omega) (Ev.ite_pos (by omega) (Ev.ite_pos (by omega) ?_))
    by_cases h : t[i].length = t.length
    · rw [beq_iff_eq.2 h, Bool.true_and]
      refine Ev.ite_pos (by omega) (Ev.bind (l1All_ev t[i] 1 4 (by omega)) ?_)
      cases hb : t[i].all fun x => inB x 1 4 with
      | false => exact Ev.ite_neg (by simp) (Ev.now _)
      | true => exact Ev.ite_pos rfl (ih (i + 1) (by omega))
    · rw [beq_eq_false_iff_ne.2 h]
      exact Ev.ite_neg (by omega) (Ev.now _)
theorem weTable_ev (t : List (List Int)) (hf : fewRows t) : Ev (fun k => spec_weTable.f k t) (weightsB t) := by
  unfold spec_weTable.f spec_weSide.f weightsB squareB
  rw [l1In_eq, rows_all_and]
  refine Ev.some_bind rfl ?_
  cases h1 : inB (t.length : Int) 1 4 with
  | false => exact Ev.ite_neg (by simp) (Ev.now _)
  | true => exact Ev.ite_pos rfl (weTable_l0 t hf t.length 0 (by omega))
end Go.Proofs.Ytlpadkbpbmoliaa.L
namespace Go.Proofs.Ytlpadkbpbmoliaa.Law
open Go.RowKit Go.Proofs.Ytlpadkbpbmoliaa Go.Proofs.Ytlpadkbpbmoliaa.P Go.Proofs.Ytlpadkbpbmoliaa.L Go.Proofs.YtlpadkbpbmoliaaW.PrintWords Go.Proofs.YtlpadkbpbmoliaaW.PrintLast Go.Proofs.YtlpadkbpbmoliaaW.PrintMore

theorem bothPowerOf (l t : List (List Int)) (hf : fewRows l) (hft : fewRows t) : ∃ (a b : Int) (c : Bool), Ev (fun k => spec_PowerOf.f k l t) (a, b, c) ∧ Ev (fun k => impl_PowerOf.f k l t) (a, b, c) := by
  unfold spec_PowerOf.f impl_PowerOf.f
  cases hs : isSign l with
  | false => exact ⟨0, 0, false, Ev.bind (hs ▸ sgGood_ev l hf) (Ev.ite_neg (by simp) (Ev.now _)), Ev.some_bind (a := false) (by unfold impl_IsSignMatrix.f; rw [hs]) (Ev.ite_neg (by simp) (Ev.now _))⟩
  | true =>
    have e1 : impl_IsSignMatrix.f l = some true := by unfold impl_IsSignMatrix.f; rw [hs]
    have hg := weTable_ev t hft
    cases hb : weightsB t with
    | false => exact ⟨0, 0, false, Ev.bind (hs ▸ sgGood_ev l hf) (Ev.ite_pos rfl (Ev.bind (hb ▸ hg) (Ev.ite_neg (by simp) (Ev.now _)))), Ev.some_bind e1 (Ev.ite_pos rfl (Ev.some_bind (a := false) (by unfold impl_isWeights.f; rw [hb]) (Ev.ite_neg (by simp) (Ev.now _))))⟩
    | true =>
      have e2 : impl_isWeights.f t = some true := by unfold impl_isWeights.f; rw [hb]
      by_cases h4 : (l.length : Int) = (t.length : Int)
      · have hw := hb
        unfold weightsB squareB at hw
        simp only [Bool.and_eq_true] at hw
        obtain ⟨w1, w2, w3⟩ := hw
        have w4 := (inB_iff _ _ _).1 w1
        obtain ⟨_, _, q3, _⟩ := isSign_facts hs
        have hTr : ∀ i, i < l.length → (t.getD i []).length = l.length := fun i hi => by
          rw [getD_at t [] i (by omega)]
          have := beq_iff_eq.1 (List.all_eq_true.1 w2 _ (List.getElem_mem (show i < t.length by omega)))
          omega
        have hTe : ∀ i j : Nat, i < l.length → j < l.length → 1 ≤ rd (t.getD i []) (j : Int) ∧ rd (t.getD i []) (j : Int) ≤ 4 := fun i j hi hj => by
          have hlen := hTr i hi
          rw [getD_at t [] i (by omega)] at hlen ⊢
          have h5 := List.all_eq_true.1 w3 _ (List.getElem_mem (show i < t.length by omega))
          rw [rd_at _ _ (by omega)]
          exact (inB_iff _ _ _).1 (List.all_eq_true.1 h5 _ (List.getElem_mem _))
        obtain ⟨⟨a, b⟩, h1, h2⟩ := powerOf_l0 l t (by omega) q3 (by omega) hTr hTe l.length 0 1 1 (by omega) (by omega) (by omega) (by simp) (by simp)
        have h1' : Ev (fun k => spec_wePowerOf.f k l t) (a, b) := h1
        have h2' : Ev (fun k => impl_powerOf.f k l t) (a, b) := h2
        exact ⟨a, b, true, Ev.bind (hs ▸ sgGood_ev l hf) (Ev.ite_pos rfl (Ev.bind (hb ▸ hg) (Ev.ite_pos rfl (Ev.ite_pos h4 (Ev.bind h1' (Ev.now _)))))), Ev.some_bind e1 (Ev.ite_pos rfl (Ev.some_bind e2 (Ev.ite_pos rfl (Ev.ite_pos h4 (Ev.bind h2' (Ev.now _))))))⟩
      · exact ⟨0, 0, false, Ev.bind (hs ▸ sgGood_ev l hf) (Ev.ite_pos rfl (Ev.bind (hb ▸ hg) (Ev.ite_pos rfl (Ev.ite_neg h4 (Ev.now _))))), Ev.some_bind e1 (Ev.ite_pos rfl (Ev.some_bind e2 (Ev.ite_pos rfl (Ev.ite_neg h4 (Ev.now _)))))⟩
theorem purePowerOf (l t : List (List Int)) (u : Int) (hu1 : u ≤ 1048576) (hu : Ev (fun k => laws_szIntSS.f k l 1048576) u) (hd : u < 0 ∨ fewRows l) (h2 : ∀ r ∈ t, r.length ≤ 9223372036854775807) (h3 : t.length ≤ 9223372036854775807) : ∃ k, laws_FnExactPowerOf.f k l t = some true := by
  refine Ev.rounds ?_
  unfold laws_FnExactPowerOf.f
  refine Ev.bind hu ?_
  by_cases hn : u < 0
  · exact Ev.ite_pos hn (Ev.now _)
  · have hf := hd.resolve_left hn
    obtain ⟨u2, _, hu2, hd2⟩ := szIntSS_at t u (by omega) hu1 h3 h2
    refine Ev.ite_neg hn (Ev.bind hu2 ?_)
    by_cases hn2 : u2 < 0
    · exact Ev.ite_pos hn2 (Ev.now _)
    · have hft := hd2.resolve_left hn2
      obtain ⟨a, b, c, e1, e2⟩ := bothPowerOf l t hf hft
      have hl := toIntSS_eq l hf.ok
      have ht := toIntSS_eq t hft.ok
      refine Ev.ite_neg hn2 (Ev.some_bind hl (Ev.some_bind ht (Ev.bind e1 (Ev.some_bind hl (Ev.some_bind ht (Ev.bind e2 (Ev.some_bind (a := true) (by unfold laws_eqRatio.f; rw [if_pos rfl, if_pos rfl]) (Ev.ite_pos rfl ?_))))))))
      refine Ev.step (fun k => by rw [laws_FnExactPowerOf.j0]) ?_
      exact Ev.ite_neg (by simp) (Ev.some_bind hl (Ev.bind (eqIntSS l hf.ok) (Ev.ite_pos rfl (Ev.some_bind ht (Ev.bind (eqIntSS t hft.ok) (Ev.ite_pos rfl (Ev.now _)))))))
theorem FnExactPowerOf (A : Option Addr) (cap : Nat) (l : List (List Int)) {W0 : World} (h : RowsIn W0 A l.length cap l) (A2 : Option Addr) (cap2 : Nat) (t : List (List Int)) (h2 : RowsIn W0 A2 t.length cap2 t) (W : World) (hW : W = W0) :
    Calls Try.prog 6 #[.slice A l.length cap, .slice A2 t.length cap2] W fun e w' => e = .returned (.bool true) ∧ Below W.heap.size W w' := by
  subst hW
  obtain ⟨u, hu1, hu, hd⟩ := szIntSS_at l 1048576 (by omega) (by omega) (by have := h.size; omega) (fun r hr => (h.rows r hr).1)
  obtain ⟨k, hk⟩ := purePowerOf l t u hu1 hu hd (fun r hr => (h2.rows r hr).1) (by have := h2.size; omega)
  exact laws_FnExactPowerOf.calls k A cap l A2 cap2 t true W h.read h.le h2.read h2.le hk
end Go.Proofs.Ytlpadkbpbmoliaa.Law
