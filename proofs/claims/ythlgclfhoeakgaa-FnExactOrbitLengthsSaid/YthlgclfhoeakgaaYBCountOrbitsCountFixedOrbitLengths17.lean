/- Texts of one chain, in build order. -/
import Derived.Test.YthlgclfhoeakgaaYBCountOrbitsCountFixedOrbitLengths16
namespace Go.Proofs.Ythlgclfhoeakgaa.L
open Go.RowKit Go.Proofs.Ythlgclfhoeakgaa Go.Proofs.Ythlgclfhoeakgaa.P Go.Proofs.YthlgclfhoeakgaaW.PrintWords Go.Proofs.YthlgclfhoeakgaaW.PrintLast Go.Proofs.YthlgclfhoeakgaaW.PrintMore
set_option linter.unusedVariables false
set_option linter.unusedSimpArgs false

theorem rd1_table (h : Nat → Nat → Int) (r c i : Nat) (hi : i < r) : rd_L1 (tableL h r c) (i : Int) = rowL h i c := by rw [rd1_get, tableL_get _ _ _ _ hi]
/-- The way, as the reference tells it. -/
def wayS (h : Nat → Nat → Int) (i j : Nat) : Int :=
 if h (i - 1) j = h i j + 1 ∧ h (i + 1) j = h i j + 1 ∧ h i (j - 1) = h i j + 1 ∧ h i (j + 1) = h i j + 1 then 1
 else if h (i - 1) j = h i j - 1 ∧ h (i + 1) j = h i j - 1 ∧ h i (j - 1) = h i j - 1 ∧ h i (j + 1) = h i j - 1 then -1 else 0
theorem wayS_way {n : Nat} {h : Nat → Nat → Int} (H : HOK n h) {i j : Nat} (hi1 : 1 ≤ i) (hi : i < n) (hj1 : 1 ≤ j) (hj : j < n) : 2 * wayS h i j = wayF h i j := by
 have a := H.across i j (by omega) hj
 unfold wayS wayF
 split
 ·rename_i q
  rw [if_pos (by omega)]; omega
 ·split
  ·rename_i q
   rw [if_pos (by omega)]; omega
  ·rw [if_neg (by omega)]; omega
theorem all4 (a b c d x : Int) : ([a, b, c, d].all fun y => inB y x x) = decide (a = x ∧ b = x ∧ c = x ∧ d = x) := by
 have e : ∀ y, inB y x x = decide (y = x) := fun y => by
  unfold inB
  by_cases h : y = x
  ·simp [h]
  ·rw [decide_eq_false h]
   rcases Int.lt_or_gt_of_ne h with h2 | h2
   ·rw [decide_eq_false (show ¬ x ≤ y by omega)]; rfl
   ·rw [decide_eq_false (show ¬ y ≤ x by omega), Bool.and_false]
 simp [e, Bool.and_assoc]
theorem heWay_ev {n : Nat} {h : Nat → Nat → Int} (H : HOK n h) (hn : n ≤ 6) {i j : Nat} (hi1 : 1 ≤ i) (hi : i < n) (hj1 : 1 ≤ j) (hj : j < n) :
  Ev (fun k => spec_heWay.f k (tableL h (n + 1) (n + 1)) i j) (wayS h i j) := by
 have b := H.range (i := i) (j := j) (by omega) (by omega)
 unfold spec_heWay.f
 rw [wrapP i (by omega) (by omega), wrapP j (by omega) (by omega), wrapS i (by omega), wrapS j (by omega), tableL_length, rd1_table h _ _ i (by omega), rd1_table h _ _ (i - 1) (by omega), rd1_table h _ _ (i + 1) (by omega), rowL_length, rowL_length, rowL_length,
  rd_rowL h (i - 1) _ j (by omega), rd_rowL h (i + 1) _ j (by omega), rd_rowL h i _ (j - 1) (by omega), rd_rowL h i _ (j + 1) (by omega), rd_rowL h i _ j (by omega)]
 rw [wrapI (h i j + 1) (by omega) (by omega), wrapI (h i j - 1) (by omega) (by omega)]
 refine Ev.ite_pos (by omega) (Ev.ite_pos (by omega) (Ev.ite_pos (by omega) (Ev.ite_pos (by omega) (Ev.ite_pos (by omega) (Ev.ite_pos (by omega) (Ev.ite_pos (by omega) (Ev.ite_pos (by omega) (Ev.ite_pos (by omega) (Ev.ite_pos (by omega) (Ev.ite_pos (by omega) (Ev.ite_pos (by omega) (Ev.ite_pos (by omega) (Ev.ite_pos (by omega) ?_)))))))))))))
 refine Ev.some_bind rfl ?_
 refine Ev.bind (l1All_ev _ _ _ (by simp)) ?_
 rw [all4]
 unfold wayS
 by_cases q1 : h (i - 1) j = h i j + 1 ∧ h (i + 1) j = h i j + 1 ∧ h i (j - 1) = h i j + 1 ∧ h i (j + 1) = h i j + 1
 ·rw [if_pos q1, decide_eq_true q1]
  exact Ev.ite_pos rfl (Ev.now _)
 ·rw [if_neg q1, decide_eq_false q1]
  refine Ev.ite_neg (by simp) (Ev.bind (l1All_ev _ _ _ (by simp)) ?_)
  rw [all4]
  by_cases q2 : h (i - 1) j = h i j - 1 ∧ h (i + 1) j = h i j - 1 ∧ h i (j - 1) = h i j - 1 ∧ h i (j + 1) = h i j - 1
  ·rw [if_pos q2, decide_eq_true q2]
   exact Ev.ite_pos rfl (Ev.now _)
  ·rw [if_neg q2, decide_eq_false q2]
   exact Ev.ite_neg (by simp) (Ev.now _)
theorem minmax (a b c d : Int) : (minTo [a, b, c, d] 3 = maxTo [a, b, c, d] 3 ↔ a = b ∧ a = c ∧ a = d) ∧ (a = b ∧ a = c ∧ a = d → minTo [a, b, c, d] 3 = a) := by
 have e0 : rd [a, b, c, d] 0 = a := rfl
 have e1 : rd [a, b, c, d] ((0 + 1 : Nat) : Int) = b := rfl
 have e2 : rd [a, b, c, d] ((1 + 1 : Nat) : Int) = c := rfl
 have e3 : rd [a, b, c, d] ((2 + 1 : Nat) : Int) = d := rfl
 simp only [minTo, maxTo, e0, e1, e2, e3]
 constructor
 ·constructor
  ·intro h
   split at h <;> split at h <;> split at h <;> split at h <;> split at h <;> split at h <;> omega
  ·rintro ⟨rfl, rfl, rfl⟩
   simp
 ·rintro ⟨rfl, rfl, rfl⟩
  simp
theorem implWay_eq {n : Nat} {h : Nat → Nat → Int} (H : HOK n h) (hn : n ≤ 6) {i j : Nat} (hi1 : 1 ≤ i) (hi : i < n) (hj1 : 1 ≤ j) (hj : j < n) :
  impl_way.f (tableL h (n + 1) (n + 1)) i j = some (wayF h i j) := by
 have b := H.range (i := i) (j := j) (by omega) (by omega)
 have b2 := H.range (i := i - 1) (j := j) (by omega) (by omega)
 unfold impl_way.f
 rw [wrapP i (by omega) (by omega), wrapP j (by omega) (by omega), wrapS i (by omega), wrapS j (by omega), tableL_length, rd1_table h _ _ i (by omega), rd1_table h _ _ (i - 1) (by omega), rd1_table h _ _ (i + 1) (by omega), rowL_length, rowL_length, rowL_length,
  rd_rowL h (i - 1) _ j (by omega), rd_rowL h (i + 1) _ j (by omega), rd_rowL h i _ (j - 1) (by omega), rd_rowL h i _ (j + 1) (by omega), rd_rowL h i _ j (by omega)]
 repeat rw [if_pos (by omega)]
 obtain ⟨m1, m2⟩ := minmax (h (i - 1) j) (h i (j + 1)) (h (i + 1) j) (h i (j - 1))
 simp only [Option.bind_some, slices_Min_int_int.f, slices_Max_int_int.f, List.length_cons, List.length_nil, Nat.zero_add, Nat.reduceAdd, Nat.reduceLeDiff, if_true, Nat.reduceSub]
 unfold wayF
 by_cases q : h (i - 1) j = h i (j + 1) ∧ h (i - 1) j = h (i + 1) j ∧ h (i - 1) j = h i (j - 1)
 ·rw [if_pos (m1.2 q), if_pos q, if_pos (by omega), m2 q, wrapI (h (i - 1) j - h i j) (by omega) (by omega), wrapI _ (by omega) (by omega)]
 ·rw [if_neg (fun e => q (m1.1 e)), if_neg q]
end Go.Proofs.Ythlgclfhoeakgaa.L

namespace Go.Proofs.Ythlgclfhoeakgaa.L
open Go.RowKit Go.Proofs.Ythlgclfhoeakgaa Go.Proofs.Ythlgclfhoeakgaa.P Go.Proofs.YthlgclfhoeakgaaW.PrintWords Go.Proofs.YthlgclfhoeakgaaW.PrintLast Go.Proofs.YthlgclfhoeakgaaW.PrintMore
set_option linter.unusedVariables false
set_option linter.unusedSimpArgs false

theorem tableL_congr {f g : Nat → Nat → Int} {r c : Nat} (h : ∀ a b, a < r → b < c → f a b = g a b) : tableL f r c = tableL g r c := by
 unfold tableL
 apply List.map_congr_left
 intro a ha
 unfold rowL
 apply List.map_congr_left
 intro b hb
 exact h a b (List.mem_range.1 ha) (List.mem_range.1 hb)
theorem tableL_snoc (f : Nat → Nat → Int) (i c : Nat) : tableL f (i + 1) c = tableL f i c ++ [rowL f i c] := by simp [tableL, List.range_succ]
theorem rowL_snoc (f : Nat → Nat → Int) (i j : Nat) : rowL f i (j + 1) = rowL f i j ++ [f i j] := by simp [rowL, List.range_succ]
theorem set_table (h : Nat → Nat → Int) (r c i j : Nat) (v : Int) (hi : i < r) : (tableL h r c).set i ((rowL h i c).set j v) = tableL (updF h i j v) r c := by
 have := putT_table h r c i j v
 unfold putT at this
 rwa [tableL_get _ _ _ _ hi] at this
theorem fromT_agree {g h : Nat → Nat → Int} {n : Nat} (e : ∀ i j, i ≤ n → j ≤ n → g i j = h i j) : fromT g n = fromT h n := by
 unfold fromT
 apply tableL_congr
 intro a b ha hb
 unfold fromF cF
 rw [e _ _ (by omega) (by omega), e _ _ (by omega) (by omega), e _ _ (by omega) (by omega), e _ _ (by omega) (by omega)]
theorem atF_table (h : Nat → Nat → Int) (r c i j : Nat) (hi : i < r) (hj : j < c) : atF (tableL h r c) i j = h i j := by
 unfold atF
 rw [tableL_get _ _ _ _ hi, rd_rowL _ _ _ _ hj]
theorem HOK.smallH {n : Nat} {h : Nat → Nat → Int} (H : HOK n h) (hn : n ≤ 6) : SmallH (tableL h (n + 1) (n + 1)) where
 few := by rw [tableL_length]; omega
 pos := by rw [tableL_length]; omega
 square := fun i hi => by rw [tableL_length] at hi ⊢; rw [tableL_get _ _ _ _ hi, rowL_length]
 small := fun i j => by
  by_cases hi : i < n + 1
  ·by_cases hj : j < n + 1
   ·rw [atF_table _ _ _ _ _ hi hj]
    have := H.range (i := i) (j := j) (by omega) (by omega)
    omega
   ·unfold atF
    rw [tableL_get _ _ _ _ hi, rd_out _ _ (by rw [rowL_length]; omega)]
    omega
  ·unfold atF
   rw [tableL_out _ _ _ _ (by omega), rd_out [] j (by simp)]
   omega
theorem implFrom_eq {n : Nat} {h : Nat → Nat → Int} (H : HOK n h) (hn : n ≤ 6) : impl_fromHeights.f (tableL h (n + 1) (n + 1)) = some (fromT h n) := by
 unfold impl_fromHeights.f
 rw [if_pos ((smallB_iff _).2 (HOK.smallH H hn)), tableL_length, Nat.add_sub_cancel]
 exact congrArg some (fromT_agree fun i j hi hj => atF_table h _ _ i j (by omega) (by omega))
theorem toggled_l0 {n : Nat} (hn : n ≤ 6) (C : List (List Int)) (hC : ∀ r ∈ C, cellRow n r) (hl : C.length ≤ 1000000) : ∀ (d i : Nat) (h : Nat → Nat → Int), i + d = C.length → HOK n h →
  Ev (fun k => impl_toggled.l0 k (tableL h (n + 1) (n + 1)) C C.length i) (fromT (togs h ((C.drop i).map toCell)) n) := by
 intro d
 induction d with
 | zero =>
  intro i h hi H
  refine Ev.step (fun k => by rw [impl_toggled.l0]) ?_
  rw [List.drop_eq_nil_of_le (by omega)]
  refine Ev.ite_neg (by omega) ?_
  rw [implFrom_eq H hn]
  exact Ev.some_bind rfl (Ev.now _)
 | succ d ih =>
  intro i h hi H
  have hlt : i < C.length := by omega
  have hrow := hC C[i] (List.getElem_mem hlt)
  obtain ⟨r1, r2, r3, r4, r5⟩ := hrow
  obtain ⟨a, ha⟩ : ∃ a : Nat, rd C[i] 0 = (a : Int) := ⟨(rd C[i] 0).toNat, by omega⟩
  obtain ⟨b, hb⟩ : ∃ b : Nat, rd C[i] 1 = (b : Int) := ⟨(rd C[i] 1).toNat, by omega⟩
  have hc : toCell C[i] = (a, b) := by unfold toCell; rw [ha, hb]; rfl
  rw [List.drop_eq_getElem_cons hlt, List.map_cons, hc, togs]
  have hnext := ih (i + 1) (togF h a b) (by omega) (H.tog (by omega) (by omega) (by omega) (by omega))
  have br := H.range (i := a) (j := b) (by omega) (by omega)
  have br2 := H.range (i := a - 1) (j := b) (by omega) (by omega)
  have bw : -100 ≤ wayF h a b ∧ wayF h a b ≤ 100 := by unfold wayF; split <;> omega
  refine Ev.step (fun k => by rw [impl_toggled.l0]) ?_
  rw [rd1_at C i hlt, ha, hb, rd1_table h _ _ a (by omega), rowL_length, tableL_length, rd_rowL h a _ b (by omega), wrapS i (by omega), Int.toNat_natCast, Int.toNat_natCast]
  refine Ev.ite_pos (by omega) (Ev.ite_pos (by omega) (Ev.ite_pos (by omega) (Ev.ite_pos (by omega) (Ev.ite_pos (by omega) (Ev.ite_pos (by omega) (Ev.ite_pos (by omega) (Ev.ite_pos (by omega) (Ev.ite_pos (by omega) ?_))))))))
  refine Ev.some_bind (implWay_eq H hn (by omega) (by omega) (by omega) (by omega)) ?_
  rw [wrapI _ (by omega) (by omega), set_table h _ _ a b _ (by omega)]
  exact hnext
theorem toggled_ev (l : List (List Int)) (hs : isSign l = true) (C : List (List Int)) (hC : ∀ r ∈ C, cellRow l.length r) (hl : C.length ≤ 1000000) :
  Ev (fun k => impl_toggled.f k l C) (toggledT l (C.map toCell)) := by
 have h2 := (isSign_facts hs).2.1
 unfold impl_toggled.f impl_heights.f
 rw [if_pos hs]
 refine Ev.some_bind rfl ?_
 exact toggled_l0 h2 C hC hl C.length 0 (hF l) (by omega) (sign_HOK hs)

theorem rowL_zero (i n : Nat) : rowL (fun _ _ => (0 : Int)) i n = List.replicate n 0 := by
 apply List.ext_getElem
 ·simp [rowL]
 ·intro k h1 h2
  simp [rowL]
theorem sgZero_l0 (n : Nat) (hn : n ≤ 6) : ∀ (d i : Nat), i + d = n → Ev (fun k => spec_sgZero.l0 k n (tableL (fun _ _ => 0) i n) i) (tableL (fun _ _ => 0) n n) := by
 intro d
 induction d with
 | zero =>
  intro i hi
  refine Ev.step (fun k => by rw [spec_sgZero.l0]) ?_
  have : i = n := by omega
  subst this
  exact Ev.ite_neg (by omega) (Ev.now _)
 | succ d ih =>
  intro i hi
  refine Ev.step (fun k => by rw [spec_sgZero.l0]) ?_
  have hnext := ih (i + 1) (by omega)
  rw [tableL_snoc, rowL_zero] at hnext
  rw [wrapS i (by omega), tableL_length, Int.toNat_natCast]
  exact Ev.ite_pos (by omega) (Ev.ite_pos (by omega) (Ev.ite_pos (by omega) (Ev.ite_pos (by omega) hnext)))
theorem sgZero_ev (n : Nat) (hn : n ≤ 6) : Ev (fun k => spec_sgZero.f k n) (tableL (fun _ _ => 0) n n) := sgZero_l0 n hn n 0 (by omega)
/-- A corner sum read, 0 beside the table. -/
theorem sgAt_eq (C : Nat → Nat → Int) (n : Nat) (h0 : ∀ q, C 0 q = 0) (h1 : ∀ p, C p 0 = 0) (p q : Nat) (hp : p ≤ n) (hq : q ≤ n) (a b : Int) (ha : a = (p : Int) - 1) (hb : b = (q : Int) - 1) :
  spec_sgAt.f (tableL (fun x y => C (x + 1) (y + 1)) n n) a b = some (C p q) := by
 unfold spec_sgAt.f
 by_cases p0 : p = 0
 ·rw [if_pos (by omega), p0, h0]
 ·rw [if_neg (by omega)]
  by_cases q0 : q = 0
  ·rw [if_pos (by omega), q0, h1]
  ·rw [if_neg (by omega)]
   obtain ⟨x, rfl⟩ : ∃ x, p = x + 1 := ⟨p - 1, by omega⟩
   obtain ⟨y, rfl⟩ : ∃ y, q = y + 1 := ⟨q - 1, by omega⟩
   have ea : a = (x : Int) := by omega
   have eb : b = (y : Int) := by omega
   rw [ea, eb, tableL_length, rd1_table _ _ _ x (by omega), rowL_length, rd_rowL _ _ _ y (by omega), if_pos (by omega), if_pos (by omega), if_pos (by omega), if_pos (by omega)]
theorem cs_zero (l : List (List Int)) : ∀ p, cs l p 0 = 0
 | 0 => rfl
 | p + 1 => by rw [cs, cs_zero l p, ps]; rfl
/-- The corner sums while they are reckoned: those of the rows above and of the first j columns. -/
def stC (l : List (List Int)) (i j a b : Nat) : Int := if a < i ∨ (a = i ∧ b < j) then cs l (a + 1) (b + 1) else 0
theorem sgCorners_l1 (l : List (List Int)) (hs : SmallT l) (i : Nat) (hi : i < l.length) (r : List (List Int))
  (hr : Ev (fun k => spec_sgCorners.l0 k l (tableL (stC l (i + 1) 0) l.length l.length) l.length ((i + 1 : Nat) : Int)) r) :
  ∀ (d j : Nat), j + d = l.length → Ev (fun k => spec_sgCorners.l1 k l (tableL (stC l i j) l.length l.length) i (ps (l.getD i []) j) l.length i (l.getD i []) (l.getD i []).length j) r := by
 have h6 := hs.few
 have hrl := hs.square i hi
 intro d
 induction d with
 | zero =>
  intro j hj
  refine Ev.step (fun k => by rw [spec_sgCorners.l1]) ?_
  refine Ev.ite_neg (by omega) ?_
  rw [wrapS i (by omega)]
  rw [show tableL (stC l i j) l.length l.length = tableL (stC l (i + 1) 0) l.length l.length from tableL_congr fun a b ha hb => by
   unfold stC
   by_cases q : a < i ∨ (a = i ∧ b < j)
   ·rw [if_pos q, if_pos (by omega)]
   ·rw [if_neg q, if_neg (by omega)]]
  exact hr
 | succ d ih =>
  intro j hj
  have hnext := ih (j + 1) (by omega)
  have b1 := ps_small (l.getD i []) (hs.small i) (j + 1)
  have b2 := cs_small hs (j + 1) (by omega) (i + 1)
  have b3 := cs_small hs (j + 1) (by omega) i
  have ec : cs l (i + 1) (j + 1) = cs l i (j + 1) + ps (l.getD i []) (j + 1) := rfl
  have e1 : wrap64 (ps (l.getD i []) j + rd (l.getD i []) (j : Int)) = ps (l.getD i []) (j + 1) := wrapI _ (by show _ ≤ ps (l.getD i []) (j + 1); omega) (by show ps (l.getD i []) (j + 1) ≤ _; omega)
  refine Ev.step (fun k => by rw [spec_sgCorners.l1]) ?_
  rw [rd1_table _ _ _ i hi, rowL_length, tableL_length, e1, Int.toNat_natCast, Int.toNat_natCast, set_table _ _ _ i j _ hi, wrapS j (by omega)]
  refine Ev.ite_pos (by omega) (Ev.ite_pos (by omega) (Ev.ite_pos (by omega) (Ev.ite_pos (by omega) (Ev.ite_pos (by omega) (Ev.ite_pos (by omega) ?_)))))
  refine Ev.some_bind rfl ?_
  by_cases h0 : i = 0
  ·refine Ev.ite_neg (by omega) ?_
   rw [show tableL (updF (stC l i j) i j (ps (l.getD i []) (j + 1))) l.length l.length = tableL (stC l i (j + 1)) l.length l.length from tableL_congr fun a b ha hb => by
    unfold updF stC
    by_cases q : a = i ∧ b = j
    ·obtain ⟨rfl, rfl⟩ := q
     rw [if_pos ⟨rfl, rfl⟩, if_pos (by omega), ec, h0, cs]; omega
    ·rw [if_neg q]
     by_cases q2 : a < i ∨ (a = i ∧ b < j)
     ·rw [if_pos q2, if_pos (by omega)]
     ·rw [if_neg q2, if_neg (by omega)]]
   exact hnext
  ·refine Ev.ite_pos (by omega) ?_
   rw [wrapP i (by omega) (by omega), rd1_table _ _ _ i hi, rd1_table _ _ _ (i - 1) (by omega), rowL_length, rowL_length, rd_rowL _ _ _ j (by omega), rd_rowL _ _ _ j (by omega), updF_at, updF_ne _ _ _ _ _ _ (by omega), set_table _ _ _ i j _ hi]
   have e2 : stC l i j (i - 1) j = cs l i (j + 1) := by
    unfold stC
    rw [if_pos (by omega), show i - 1 + 1 = i by omega]
   rw [e2, wrapI _ (by omega) (by omega)]
   refine Ev.ite_pos (by omega) (Ev.ite_pos (by omega) (Ev.ite_pos (by omega) (Ev.ite_pos (by omega) ?_)))
   rw [show tableL (updF (updF (stC l i j) i j (ps (l.getD i []) (j + 1))) i j (ps (l.getD i []) (j + 1) + cs l i (j + 1))) l.length l.length = tableL (stC l i (j + 1)) l.length l.length from tableL_congr fun a b ha hb => by
    unfold updF stC
    by_cases q : a = i ∧ b = j
    ·obtain ⟨rfl, rfl⟩ := q
     rw [if_pos ⟨rfl, rfl⟩, if_pos (by omega), ec]; omega
    ·rw [if_neg q, if_neg q]
     by_cases q2 : a < i ∨ (a = i ∧ b < j)
     ·rw [if_pos q2, if_pos (by omega)]
     ·rw [if_neg q2, if_neg (by omega)]]
   exact hnext
theorem sgCorners_l0 (l : List (List Int)) (hs : SmallT l) : ∀ (d i : Nat), i + d = l.length → Ev (fun k => spec_sgCorners.l0 k l (tableL (stC l i 0) l.length l.length) l.length i) (tableL (fun x y => cs l (x + 1) (y + 1)) l.length l.length) := by
 have h6 := hs.few
 intro d
 induction d with
 | zero =>
  intro i hi
  refine Ev.step (fun k => by rw [spec_sgCorners.l0]) ?_
  refine Ev.ite_neg (by omega) ?_
  rw [show tableL (stC l i 0) l.length l.length = tableL (fun x y => cs l (x + 1) (y + 1)) l.length l.length from tableL_congr fun a b ha hb => by
   unfold stC
   rw [if_pos (by omega)]]
  exact Ev.now _
 | succ d ih =>
  intro i hi
  refine Ev.step (fun k => by rw [spec_sgCorners.l0]) ?_
  refine Ev.ite_pos (by omega) (Ev.ite_pos (by omega) (Ev.ite_pos (by omega) ?_))
  rw [rd1_get]
  exact sgCorners_l1 l hs i (by omega) _ (ih (i + 1) (by omega)) l.length 0 (by omega)
theorem sgCorners_ev (l : List (List Int)) (hs : SmallT l) : Ev (fun k => spec_sgCorners.f k l) (tableL (fun x y => cs l (x + 1) (y + 1)) l.length l.length) := by
 unfold spec_sgCorners.f
 refine Ev.bind (sgZero_ev l.length hs.few) ?_
 have := sgCorners_l0 l hs l.length 0 (by omega)
 rwa [show tableL (stC l 0 0) l.length l.length = tableL (fun _ _ => 0) l.length l.length from tableL_congr fun a b ha hb => by unfold stC; rw [if_neg (by omega)]] at this
theorem heOf_l1 (l : List (List Int)) (hs : SmallT l) (i : Nat) (hi : i ≤ l.length) (acc : List (List Int)) (hacc : acc.length ≤ 100) (r : List (List Int))
  (hr : Ev (fun k => spec_heOf.l0 k l (tableL (fun x y => cs l (x + 1) (y + 1)) l.length l.length) (acc ++ [rowL (hF l) i (l.length + 1)]) ((i + 1 : Nat) : Int)) r) :
  ∀ (d j : Nat), j + d = l.length + 1 → Ev (fun k => spec_heOf.l1 k l (tableL (fun x y => cs l (x + 1) (y + 1)) l.length l.length) acc i (rowL (hF l) i j) j) r := by
 have h6 := hs.few
 intro d
 induction d with
 | zero =>
  intro j hj
  refine Ev.step (fun k => by rw [spec_heOf.l1]) ?_
  have e : j = l.length + 1 := by omega
  subst e
  rw [wrapS i (by omega)]
  exact Ev.ite_neg (by omega) (Ev.ite_pos (by omega) hr)
 | succ d ih =>
  intro j hj
  have hnext := ih (j + 1) (by omega)
  rw [rowL_snoc] at hnext
  have b := cs_small hs j (by omega) i
  refine Ev.step (fun k => by rw [spec_heOf.l1]) ?_
  refine Ev.ite_pos (by omega) ?_
  refine Ev.some_bind (sgAt_eq (fun p q => cs l p q) l.length (fun q => rfl) (cs_zero l) i j (by omega) (by omega) _ _ (wrapI _ (by omega) (by omega)) (wrapI _ (by omega) (by omega))) ?_
  rw [wrapS j (by omega), rowL_length, wrapI ((i : Int) + j) (by omega) (by omega), wrapI (2 * cs l i j) (by omega) (by omega), wrapI _ (by omega) (by omega)]
  exact Ev.ite_pos (by omega) hnext
theorem heOf_l0 (l : List (List Int)) (hs : SmallT l) : ∀ (d i : Nat), i + d = l.length + 1 → Ev (fun k => spec_heOf.l0 k l (tableL (fun x y => cs l (x + 1) (y + 1)) l.length l.length) (tableL (hF l) i (l.length + 1)) i) (heightsM l) := by
 have h6 := hs.few
 intro d
 induction d with
 | zero =>
  intro i hi
  refine Ev.step (fun k => by rw [spec_heOf.l0]) ?_
  have e : i = l.length + 1 := by omega
  subst e
  exact Ev.ite_neg (by omega) (Ev.now _)
 | succ d ih =>
  intro i hi
  refine Ev.step (fun k => by rw [spec_heOf.l0]) ?_
  refine Ev.ite_pos (by omega) ?_
  have hnext := ih (i + 1) (by omega)
  rw [tableL_snoc] at hnext
  exact heOf_l1 l hs i (by omega) _ (by rw [tableL_length]; omega) _ hnext (l.length + 1) 0 (by omega)
theorem heOf_ev (l : List (List Int)) (hs : SmallT l) : Ev (fun k => spec_heOf.f k l) (heightsM l) := by
 unfold spec_heOf.f
 exact Ev.bind (sgCorners_ev l hs) (heOf_l0 l hs (l.length + 1) 0 (by omega))
/-- A table while it is filled: the rows above, and the first j columns. -/
def stG (f : Nat → Nat → Int) (i j a b : Nat) : Int := if a < i ∨ (a = i ∧ b < j) then f a b else 0
theorem stG_row (f : Nat → Nat → Int) (n i : Nat) : tableL (stG f i n) n n = tableL (stG f (i + 1) 0) n n := tableL_congr fun a b ha hb => by
 unfold stG
 by_cases q : a < i ∨ (a = i ∧ b < n)
 ·rw [if_pos q, if_pos (by omega)]
 ·rw [if_neg q, if_neg (by omega)]
theorem stG_zero (f : Nat → Nat → Int) (n : Nat) : tableL (stG f 0 0) n n = tableL (fun _ _ => 0) n n := tableL_congr fun a b ha hb => by unfold stG; rw [if_neg (by omega)]
theorem stG_end (f : Nat → Nat → Int) (n : Nat) : tableL (stG f n 0) n n = tableL f n n := tableL_congr fun a b ha hb => by unfold stG; rw [if_pos (by omega)]
theorem stG_put (f : Nat → Nat → Int) (n i j : Nat) (v : Int) (hv : v = f i j) : tableL (updF (stG f i j) i j v) n n = tableL (stG f i (j + 1)) n n := tableL_congr fun a b ha hb => by
 unfold updF stG
 by_cases q : a = i ∧ b = j
 ·obtain ⟨rfl, rfl⟩ := q
  rw [if_pos ⟨rfl, rfl⟩, if_pos (by omega), hv]
 ·rw [if_neg q]
  by_cases q2 : a < i ∨ (a = i ∧ b < j)
  ·rw [if_pos q2, if_pos (by omega)]
  ·rw [if_neg q2, if_neg (by omega)]
theorem sgFrom_l1 {n : Nat} {h : Nat → Nat → Int} (H : HOK n h) (hn : n ≤ 6) (i : Nat) (hi : i < n) (r : List (List Int))
  (hr : Ev (fun k => spec_sgFrom.l0 k (tableL (fun x y => cF h (x + 1) (y + 1)) n n) (tableL (stG (fromF h) (i + 1) 0) n n) n ((i + 1 : Nat) : Int)) r) :
  ∀ (d j : Nat), j + d = n → Ev (fun k => spec_sgFrom.l1 k (tableL (fun x y => cF h (x + 1) (y + 1)) n n) (tableL (stG (fromF h) i j) n n) i n i n j) r := by
 have z0 : ∀ q, q ≤ n → cF h 0 q = 0 := fun q hq => by have := H.cF_range (i := 0) (j := q) (by omega) hq; have := H.top q hq; omega
 have z1 : ∀ p, p ≤ n → cF h p 0 = 0 := fun p hp => by have := H.cF_range (i := p) (j := 0) hp (by omega); have := H.left p hp; omega
 have e : tableL (fun x y => cF h (x + 1) (y + 1)) n n = tableL (fun x y => (fun p q => if p ≤ n ∧ q ≤ n then cF h p q else 0) (x + 1) (y + 1)) n n := tableL_congr fun a b ha hb => by
  show _ = if _ then _ else _
  rw [if_pos (by omega)]
 have zz0 : ∀ q, (if (0 : Nat) ≤ n ∧ q ≤ n then cF h 0 q else 0) = 0 := fun q => by
  by_cases h1 : q ≤ n
  ·rw [if_pos ⟨Nat.zero_le _, h1⟩]; exact z0 q h1
  ·rw [if_neg (fun e => h1 e.2)]
 have zz1 : ∀ p, (if p ≤ n ∧ (0 : Nat) ≤ n then cF h p 0 else 0) = 0 := fun p => by
  by_cases h1 : p ≤ n
  ·rw [if_pos ⟨h1, Nat.zero_le _⟩]; exact z1 p h1
  ·rw [if_neg (fun e => h1 e.1)]
 have A := fun (p q : Nat) (hp : p ≤ n) (hq : q ≤ n) (a b : Int) (ha : a = (p : Int) - 1) (hb : b = (q : Int) - 1) =>
  sgAt_eq (fun p q => if p ≤ n ∧ q ≤ n then cF h p q else 0) n zz0 zz1 p q hp hq a b ha hb
 rw [← e] at A
 intro d
 induction d with
 | zero =>
  intro j hj
  refine Ev.step (fun k => by rw [spec_sgFrom.l1]) ?_
  have ej : j = n := by omega
  subst ej
  rw [wrapS i (by omega), stG_row]
  exact Ev.ite_neg (by omega) hr
 | succ d ih =>
  intro j hj
  have hnext := ih (j + 1) (by omega)
  have b1 := H.cF_range (i := i + 1) (j := j + 1) (by omega) (by omega)
  have b2 := H.cF_range (i := i) (j := j + 1) (by omega) (by omega)
  have b3 := H.cF_range (i := i + 1) (j := j) (by omega) (by omega)
  have b4 := H.cF_range (i := i) (j := j) (by omega) (by omega)
  refine Ev.step (fun k => by rw [spec_sgFrom.l1]) ?_
  rw [tableL_length, wrapI ((i : Int) - 1) (by omega) (by omega), wrapI ((j : Int) - 1) (by omega) (by omega)]
  refine Ev.ite_pos (by omega) (Ev.ite_pos (by omega) (Ev.ite_pos (by omega) ?_))
  refine Ev.some_bind (A (i + 1) (j + 1) (by omega) (by omega) _ _ (by omega) (by omega)) ?_
  refine Ev.some_bind (A i (j + 1) (by omega) (by omega) _ _ rfl (by omega)) ?_
  refine Ev.some_bind (A (i + 1) j (by omega) (by omega) _ _ (by omega) rfl) ?_
  refine Ev.some_bind (A i j (by omega) (by omega) _ _ rfl rfl) ?_
  rw [if_pos (by omega), if_pos (by omega), if_pos (by omega), if_pos (by omega)]
  rw [rd1_table _ _ _ i hi, rowL_length, Int.toNat_natCast, Int.toNat_natCast, set_table _ _ _ i j _ hi, wrapS j (by omega)]
  rw [wrapI (cF h (i + 1) (j + 1) - cF h i (j + 1)) (by omega) (by omega), wrapI (cF h (i + 1) (j + 1) - cF h i (j + 1) - cF h (i + 1) j) (by omega) (by omega), wrapI _ (by omega) (by omega), stG_put (fromF h) n i j (cF h (i + 1) (j + 1) - cF h i (j + 1) - cF h (i + 1) j + cF h i j) rfl]
  exact Ev.ite_pos (by omega) (Ev.ite_pos (by omega) hnext)
theorem sgFrom_l0 {n : Nat} {h : Nat → Nat → Int} (H : HOK n h) (hn : n ≤ 6) : ∀ (d i : Nat), i + d = n →
  Ev (fun k => spec_sgFrom.l0 k (tableL (fun x y => cF h (x + 1) (y + 1)) n n) (tableL (stG (fromF h) i 0) n n) n i) (fromT h n) := by
 intro d
 induction d with
 | zero =>
  intro i hi
  refine Ev.step (fun k => by rw [spec_sgFrom.l0]) ?_
  have e : i = n := by omega
  subst e
  rw [stG_end]
  exact Ev.ite_neg (by omega) (Ev.now _)
 | succ d ih =>
  intro i hi
  refine Ev.step (fun k => by rw [spec_sgFrom.l0]) ?_
  refine Ev.ite_pos (by omega) ?_
  rw [tableL_length]
  exact sgFrom_l1 H hn i (by omega) _ (ih (i + 1) (by omega)) n 0 (by omega)
theorem sgFrom_ev {n : Nat} {h : Nat → Nat → Int} (H : HOK n h) (hn : n ≤ 6) : Ev (fun k => spec_sgFrom.f k (tableL (fun x y => cF h (x + 1) (y + 1)) n n)) (fromT h n) := by
 unfold spec_sgFrom.f
 rw [tableL_length]
 refine Ev.bind (sgZero_ev n hn) ?_
 have := sgFrom_l0 H hn n 0 (by omega)
 rwa [stG_zero] at this
theorem heFrom_l1 {n : Nat} {h : Nat → Nat → Int} (H : HOK n h) (hn : n ≤ 6) (i : Nat) (hi : i < n) (r : List (List Int))
  (hr : Ev (fun k => spec_heFrom.l0 k (tableL h (n + 1) (n + 1)) (tableL (stG (fun x y => cF h (x + 1) (y + 1)) (i + 1) 0) n n) n ((i + 1 : Nat) : Int)) r) :
  ∀ (d j : Nat), j + d = n → Ev (fun k => spec_heFrom.l1 k (tableL h (n + 1) (n + 1)) (tableL (stG (fun x y => cF h (x + 1) (y + 1)) i j) n n) i n i n j) r := by
 intro d
 induction d with
 | zero =>
  intro j hj
  refine Ev.step (fun k => by rw [spec_heFrom.l1]) ?_
  have ej : j = n := by omega
  subst ej
  rw [wrapS i (by omega), stG_row]
  exact Ev.ite_neg (by omega) hr
 | succ d ih =>
  intro j hj
  have hnext := ih (j + 1) (by omega)
  have b1 := H.range (i := i + 1) (j := j + 1) (by omega) (by omega)
  have b2 := H.cF_range (i := i + 1) (j := j + 1) (by omega) (by omega)
  have ev : Int.tdiv ((i : Int) + j + 2 - h (i + 1) (j + 1)) 2 = cF h (i + 1) (j + 1) := by
   unfold cF
   rw [show (((i + 1 : Nat) : Int) + ((j + 1 : Nat) : Int) - h (i + 1) (j + 1)) = (i : Int) + j + 2 - h (i + 1) (j + 1) by omega]
  refine Ev.step (fun k => by rw [spec_heFrom.l1]) ?_
  rw [wrapS i (by omega), wrapS j (by omega), tableL_length, tableL_length, rd1_table _ _ _ i hi, rd1_table _ _ _ (i + 1) (by omega), rowL_length, rowL_length, rd_rowL _ _ _ (j + 1) (by omega), Int.toNat_natCast, Int.toNat_natCast, set_table _ _ _ i j _ hi]
  rw [wrapI ((i : Int) + j) (by omega) (by omega), wrapI ((i : Int) + j + 2) (by omega) (by omega), wrapI ((i : Int) + j + 2 - h (i + 1) (j + 1)) (by omega) (by omega), ev, wrapI (cF h (i + 1) (j + 1)) (by omega) (by omega), stG_put (fun x y => cF h (x + 1) (y + 1)) _ _ _ _ rfl]
  exact Ev.ite_pos (by omega) (Ev.ite_pos (by omega) (Ev.ite_pos (by omega) (Ev.ite_pos (by omega) (Ev.ite_pos (by omega) (Ev.ite_pos (by omega) (Ev.ite_pos (by omega) (Ev.ite_pos (by omega) (Ev.ite_pos (by omega) hnext))))))))
theorem heFrom_l0 {n : Nat} {h : Nat → Nat → Int} (H : HOK n h) (hn : n ≤ 6) : ∀ (d i : Nat), i + d = n →
  Ev (fun k => spec_heFrom.l0 k (tableL h (n + 1) (n + 1)) (tableL (stG (fun x y => cF h (x + 1) (y + 1)) i 0) n n) n i) (fromT h n) := by
 intro d
 induction d with
 | zero =>
  intro i hi
  refine Ev.step (fun k => by rw [spec_heFrom.l0]) ?_
  have e : i = n := by omega
  subst e
  rw [stG_end]
  exact Ev.ite_neg (by omega) (Ev.bind (sgFrom_ev H hn) (Ev.now _))
 | succ d ih =>
  intro i hi
  refine Ev.step (fun k => by rw [spec_heFrom.l0]) ?_
  refine Ev.ite_pos (by omega) ?_
  rw [tableL_length]
  exact heFrom_l1 H hn i (by omega) _ (ih (i + 1) (by omega)) n 0 (by omega)
theorem heFrom_ev {n : Nat} {h : Nat → Nat → Int} (H : HOK n h) (hn : n ≤ 6) : Ev (fun k => spec_heFrom.f k (tableL h (n + 1) (n + 1))) (fromT h n) := by
 unfold spec_heFrom.f
 rw [tableL_length, wrapI _ (by omega) (by omega), show (((n + 1 : Nat) : Int) - 1) = (n : Int) by omega]
 refine Ev.bind (sgZero_ev n hn) ?_
 have := heFrom_l0 H hn n 0 (by omega)
 rw [stG_zero] at this
 first | exact this | (rw [tableL_length]; exact this)
end Go.Proofs.Ythlgclfhoeakgaa.L

namespace Go.Proofs.Ythlgclfhoeakgaa
open Go.RowKit Go.Proofs.Ythlgclfhoeakgaa.P Go.Proofs.Ythlgclfhoeakgaa.L Go.Proofs.YthlgclfhoeakgaaW.PrintWords Go.Proofs.YthlgclfhoeakgaaW.PrintLast Go.Proofs.YthlgclfhoeakgaaW.PrintMore
set_option linter.unusedVariables false
set_option linter.unusedSimpArgs false

def KS (w : World) (B n g c : Nat) (h : Nat → Nat → Int) : Prop := Kd.S (Kd.slice 3 (Kd.int .i64)) 34 w B (fun _ => True) (.slice (some ⟨g, 0, none⟩) (n + 1) c) (tableL h (n + 1) (n + 1))
set_option maxHeartbeats 4000000 in
theorem spec_gyToggle.callsG {n : Nat} {h : Nat → Nat → Int} (H : HOK n h) (hn : n ≤ 6) (i j : Nat) (hi1 : 1 ≤ i) (hi : i < n) (hj1 : 1 ≤ j) (hj : j < n) (g c : Nat) (w0 w : World) (hB : Below w0.heap.size w0 w) (hS : KS w w0.heap.size n g c h) :
  Calls Try.prog 98 #[.slice (some ⟨g, 0, none⟩) (n + 1) c, .int .i64 i, .int .i64 j] w fun e w' => e = .returned (.slice (some ⟨g, 0, none⟩) (n + 1) c) ∧ KS w' w0.heap.size n g c (togF h i j) ∧ Below w0.heap.size w0 w' := by
 unfold KS at hS ⊢
 obtain ⟨hnl, hnc, hC⟩ := Kd.S_reads' hS
 obtain ⟨gi, ci, hx, hci, hgi, hy, hput⟩ := S_put hS i j (by rw [tableL_length]; omega) (by rw [tableL_get _ _ _ _ (by omega), rowL_length]; omega)
 rw [tableL_get _ _ _ _ (by omega), rowL_length] at hx hci
 rw [tableL_get _ _ _ _ (by omega), rd_rowL _ _ _ _ (by omega)] at hy
 obtain ⟨k, hk⟩ := (heWay_ev H hn hi1 hi hj1 hj).rounds
 have hway := fun (W : World) (hb : Below w.heap.size w W) => spec_heWay.calls k (some ⟨g, 0, none⟩) c (tableL h (n + 1) (n + 1)) i j _ W (Kd.C_below hC hb) (by rw [tableL_length]; exact hnc) hk
 simp only [tableL_length] at hway
 clear hk
 have hb := H.range (i := i) (j := j) (by omega) (by omega)
 have hws := wayS_way H hi1 hi hj1 hj
 have hwb : -1 ≤ wayS h i j ∧ wayS h i j ≤ 1 := by
  unfold wayS
  split
  ·omega
  ·split <;> omega
 have HPUT := Aside0.mk (fun (W' : World) (hb : Below w.heap.size w W') => (hput W' hb).2 (h i j + wayF h i j))
 have HFZ := Aside0.mk (fun (W' : World) (hb : Below w.heap.size w W') => (hput W' hb).1)
 simp only [putT_table] at HPUT
 have HT := Aside0.mk (show updF h i j (h i j + wayF h i j) = togF h i j from rfl)
 rw [← hws] at HPUT HT
 obtain ⟨q, hq⟩ : ∃ q, q = wayS h i j := ⟨_, rfl⟩
 rw [← hq] at hway HPUT HT hwb
 obtain ⟨x, hxx⟩ : ∃ x, x = h i j := ⟨_, rfl⟩
 rw [← hxx] at hy HPUT HT hb
 have HE := Aside0.mk (show x + 2 * q = IntKind.i64.wrap (x + IntKind.i64.wrap (2 * q)) by simp only [i64_w]; rw [wrap_small (x := 2 * q) (by omega) (by omega), wrap_small (by omega) (by omega)])
 have HE1 := Aside0.mk (show IntKind.i64.wrap (x + 2 * q) = x + 2 * q by simp only [i64_w]; rw [wrap_small (by omega) (by omega)])
 have HBB := Aside0.mk hB
 have HGI := Aside0.mk hgi
 have hin : (i : Int) < ((n + 1 : Nat) : Int) := by omega
 have hjn : (j : Int) < ((n + 1 : Nat) : Int) := by omega
 have hf0 := HFZ.out w (Below.refl _ _)
 clear hS hC hput hws hq hxx hB hgi hnl hci
 go_enter Try.func98, Try.ntmps98
 go_wp2
 go_region_with (go_at_call 108; refine (hway _ (by repeat (first | exact Below.refl _ _ | apply below_drew))).mono ?_; rintro e w2 ⟨rfl, hb2⟩; have hb3 : Below w.heap.size w w2 := below_step (by repeat (first | exact Below.refl _ _ | apply below_drew)) hb2; have hx2 := pw_cell_below hb3 hx; have hy2 := pw_cell_below hb3 hy; have hf2 := HFZ.out _ hb3; have HB3 := Aside0.mk hb3; clear hb2 hb3)
 all_goals
  have HS2 := Aside0.mk (HPUT.out _ HB3.out)
  go_wp2
  go_ret
  have hs_ := HS2.out
  rw [HT.out] at hs_
  exact ⟨rfl, by first | exact hs_ | (rw [HE1.out]; exact hs_) | (rw [← HE.out]; exact hs_), by first | exact (below_then HBB.out HBB.out.size HB3.out).setCell HGI.out _⟩
end Go.Proofs.Ythlgclfhoeakgaa

namespace Go.Proofs.Ythlgclfhoeakgaa
open Go.RowKit Go.Proofs.Ythlgclfhoeakgaa.P Go.Proofs.Ythlgclfhoeakgaa.L Go.Proofs.YthlgclfhoeakgaaW.PrintWords Go.Proofs.YthlgclfhoeakgaaW.PrintLast Go.Proofs.YthlgclfhoeakgaaW.PrintMore
set_option linter.unusedVariables false
set_option linter.unusedSimpArgs false

set_option maxHeartbeats 4000000 in
theorem spec_gyColour.callsG {n : Nat} {h : Nat → Nat → Int} (H : HOK n h) (hn : n ≤ 6) (h1 : 1 ≤ n) (colour : Int) (g c : Nat) (w0 w : World) (hB : Below w0.heap.size w0 w) (hS : KS w w0.heap.size n g c h) :
  Calls Try.prog 85 #[.slice (some ⟨g, 0, none⟩) (n + 1) c, .int .i64 colour] w fun e w' => e = .returned (.slice (some ⟨g, 0, none⟩) (n + 1) c) ∧ KS w' w0.heap.size n g c (togs h (cellsOf n (colP colour))) ∧ Below w0.heap.size w0 w' := by
 have HS := Aside0.mk hS
 have HB := Aside0.mk hB
 have HH := Aside0.mk H
 clear hS hB H
 go_enter Try.func85, Try.ntmps85
 go_wp2
 go_loopg [0, 5, 6] n (fun gg s0 s5 s6 wr => ∃ i : Nat, 1 ≤ i ∧ i ≤ n ∧ n - i ≤ gg ∧ s0 = .slice (some ⟨g, 0, none⟩) (n + 1) c ∧ s5 = .int .i64 i ∧ Aside0 (KS wr w0.heap.size n g c (togs h (allC (colP colour) (n - 1) (i - 1)))) ∧ Aside0 (Below w0.heap.size w0 wr))
 case atStart => exact ⟨1, Nat.le_refl _, h1, by omega, rfl, rfl, HS, HB⟩
 case round =>
  clear HS HB
  obtain ⟨i, hi1, hi, hg, rfl, rfl, HS, HB⟩ := hrel
  by_cases hlt : i < n
  ·have hz : (i : Int) < (n : Int) := by omega
   obtain ⟨k, hk⟩ : ∃ k, i = k + 1 := ⟨i - 1, by omega⟩
   have hnx : allC (colP colour) (n - 1) i = allC (colP colour) (n - 1) (i - 1) ++ rowC (colP colour) i (n - 1) := by rw [hk]; rfl
   obtain ⟨pre, hpre⟩ : ∃ q, q = togs h (allC (colP colour) (n - 1) (i - 1)) := ⟨_, rfl⟩
   have HP := Aside0.mk (show HOK n pre by rw [hpre]; exact HH.out.togs _ (fun c hc => by have := allC_in _ _ _ c hc; unfold inCells; omega))
   have HNX := Aside0.mk (show togs h (allC (colP colour) (n - 1) (i + 1 - 1)) = togs pre (rowC (colP colour) i (n - 1)) by rw [Nat.add_sub_cancel, hnx, togs_append, hpre])
   rw [← hpre] at HS
   clear hpre hnx hk
   go_wp2
   go_loopg [0, 6] n (fun gj s0 s6 wr2 => ∃ j : Nat, 1 ≤ j ∧ j ≤ n ∧ n - j ≤ gj ∧ s0 = .slice (some ⟨g, 0, none⟩) (n + 1) c ∧ s6 = .int .i64 j ∧ Aside0 (KS wr2 w0.heap.size n g c (togs pre (rowC (colP colour) i (j - 1)))) ∧ Aside0 (Below w0.heap.size w0 wr2))
   case atStart => exact ⟨1, Nat.le_refl _, h1, by omega, rfl, rfl, HS, HB⟩
   case round =>
    clear HS HB
    obtain ⟨j, hj1, hj, hgj, rfl, rfl, HS, HB⟩ := hrel
    by_cases hjt : j < n
    ·have hjz : (j : Int) < (n : Int) := by omega
     have hst : rowC (colP colour) i j = rowC (colP colour) i (j - 1) ++ (if colP colour i j = true then [(i, j)] else []) := by
      obtain ⟨m, hm⟩ : ∃ m, j = m + 1 := ⟨j - 1, by omega⟩
      rw [hm, Nat.add_sub_cancel, rowC]
     obtain ⟨acc, hacc⟩ : ∃ q, q = togs pre (rowC (colP colour) i (j - 1)) := ⟨_, rfl⟩
     have HA := Aside0.mk (show HOK n acc by rw [hacc]; exact HP.out.togs _ (fun c hc => by have := rowC_in _ _ _ c hc; unfold inCells; omega))
     rw [← hacc] at HS
     cases hpp : colP colour i j with
     | false =>
      have HST := Aside0.mk (show togs pre (rowC (colP colour) i (j + 1 - 1)) = acc by rw [Nat.add_sub_cancel, hst, hpp, hacc]; simp)
      have hpp2 : (((i : Int) + (j : Int)) % 2 == colour) = false := by unfold colP at hpp; rw [Int.tmod_eq_emod_of_nonneg (by omega)] at hpp; exact hpp
      clear hpp
      clear hst hacc
      go_wp2
      go_roundg (n - (j + 1))
      case measure => omega
      case rel => exact ⟨j + 1, by omega, by omega, by omega, rfl, by go_num, ⟨by rw [HST.out]; exact HS.out⟩, HB⟩
     | true =>
      have HST := Aside0.mk (show togs pre (rowC (colP colour) i (j + 1 - 1)) = togF acc i j by rw [Nat.add_sub_cancel, hst, hpp, if_pos rfl, togs_snoc, hacc])
      have hpp2 : (((i : Int) + (j : Int)) % 2 == colour) = true := by unfold colP at hpp; rw [Int.tmod_eq_emod_of_nonneg (by omega)] at hpp; exact hpp
      clear hpp
      have HC := Aside0.mk (spec_gyToggle.callsG HA.out hn i j hi1 hlt hj1 hjt g c w0 _ HB.out HS.out)
      clear hst hacc
      go_wp2_with (go_at_call 98; refine HC.out.mono ?_; rintro e w1 ⟨rfl, hs, hb⟩; have HS1 := Aside0.mk hs; have HB1 := Aside0.mk hb; clear hs hb)
      go_roundg (n - (j + 1))
      case measure => omega
      case rel => exact ⟨j + 1, by omega, by omega, by omega, rfl, by go_num, ⟨by rw [HST.out]; exact HS1.out⟩, HB1⟩
    ·have hjz : ¬ (j : Int) < (n : Int) := by omega
     have hjn : j = n := by omega
     subst hjn
     go_wp2
     go_roundg (j - (i + 1))
     case measure => omega
     case rel => exact ⟨i + 1, by omega, by omega, by omega, rfl, by go_num, ⟨by rw [HNX.out]; exact HS.out⟩, HB⟩
  ·have hz : ¬ (i : Int) < (n : Int) := by omega
   have hin : i = n := by omega
   subst hin
   go_wp2
   go_ret
   exact ⟨rfl, HS.out, HB.out⟩
theorem RetS.mono_ {w w1 : World} {T : List (List Int)} (hb : Below w.heap.size w w1) {e : Ending} {w' : World} (h : RetS w1 T e w') : RetS w T e w' := by
 obtain ⟨v, rfl, hS, hb2⟩ := h
 exact ⟨v, rfl, Kd.S_lower hS hb.size, below_step hb hb2⟩
set_option maxHeartbeats 1000000 in
theorem spec_gyFlip.callsG (A0 : Option Addr) (c0 : Nat) (l0 : List (List Int)) (colour : Int) (w : World) (hs : isSign l0 = true) (hr0 : Kd.C (Kd.slice 3 (Kd.int .i64)) w A0 l0.length l0) (hc0 : l0.length ≤ c0) :
  Calls Try.prog 74 #[.slice A0 l0.length c0, .int .i64 colour] w (RetS w (flipT l0 colour)) := by
 obtain ⟨h1, h2, _, _⟩ := isSign_facts hs
 have H := sign_HOK hs
 obtain ⟨k, hk⟩ := (heOf_ev l0 (sign_small hs)).rounds
 have hhe := spec_heOf.calls k A0 c0 l0 _ w hr0 hc0 hk
 have H2 := H.togs (cellsOf l0.length (colP colour)) (cellsOf_in _ _)
 obtain ⟨k2, hk2⟩ := (heFrom_ev H2 h2).rounds
 have HFR := Aside0.mk (fun (g c : Nat) (W : World) (h : KS W w.heap.size l0.length g c (togs (hF l0) (cellsOf l0.length (colP colour)))) => by
  have h' := Kd.S_reads' h
  have := spec_heFrom.calls k2 (some ⟨g, 0, none⟩) c (tableL (togs (hF l0) (cellsOf l0.length (colP colour))) (l0.length + 1) (l0.length + 1)) _ W h'.2.2 (by rw [← h'.1]; exact h'.2.1) hk2
  rw [tableL_length] at this
  exact this)
 have HCO := Aside0.mk (fun (g c : Nat) (W : World) (hb : Below w.heap.size w W) (h : KS W w.heap.size l0.length g c (hF l0)) => spec_gyColour.callsG H h2 h1 colour g c w W hb h)
 have hln : 0 < (heightsM l0).length := by rw [heightsM, tableL_length]; omega
 have HLN := Aside0.mk hln
 have HHL := Aside0.mk (show (heightsM l0).length = l0.length + 1 by rw [heightsM, tableL_length])
 clear hr0 hk hk2 H H2 hs hln
 go_enter Try.func74, Try.ntmps74
 go_wp2_with (first | (go_at_call 86; refine hhe.mono ?_; rintro e w1 ⟨v, rfl, hS, hb⟩; obtain ⟨g, c, rfl, _⟩ := Kd.S_form hS HLN.out; rw [HHL.out] at hS ⊢; have HS1 := Aside0.mk hS; have HB1 := Aside0.mk hb; clear hS hb) | (go_at_call 85; refine (HCO.out _ _ _ HB1.out HS1.out).mono ?_; rintro e w2 ⟨rfl, hs, hb⟩; have HS2 := Aside0.mk hs; have HB2 := Aside0.mk hb; clear hs hb) | (go_at_call 84; refine (HFR.out _ _ _ HS2.out).mono ?_; rintro e w3 ⟨v, rfl, hS, hb⟩; have HS3 := Aside0.mk (Kd.S_lower hS HB2.out.size); have HB3 := Aside0.mk (below_step HB2.out hb); clear hS hb))
 go_ret
 exact ⟨_, rfl, HS3.out, HB3.out⟩
/-- Two flips. -/
def flip2 (l : List (List Int)) (a b : Int) : List (List Int) := flipT (flipT l a) b
set_option maxHeartbeats 1000000 in
theorem spec_gyNext.callsG (A0 : Option Addr) (c0 : Nat) (l0 : List (List Int)) (w : World) (hs : isSign l0 = true) (hr0 : Kd.C (Kd.slice 3 (Kd.int .i64)) w A0 l0.length l0) (hc0 : l0.length ≤ c0) :
  Calls Try.prog 58 #[.slice A0 l0.length c0] w (RetS w (flip2 l0 0 1)) := by
 have h1 := spec_gyFlip.callsG A0 c0 l0 0 w hs hr0 hc0
 have HF := Aside0.mk (fun (A : Option Addr) (c : Nat) (W : World) (h : Kd.C (Kd.slice 3 (Kd.int .i64)) W A (flipT l0 0).length (flipT l0 0)) (hc : (flipT l0 0).length ≤ c) => spec_gyFlip.callsG A c (flipT l0 0) 1 W (flipT_sign hs 0) h hc)
 have HE := Aside0.mk (show flip2 l0 0 1 = flipT (flipT l0 0) 1 from rfl)
 obtain ⟨m, hm⟩ : ∃ m, m = flipT l0 0 := ⟨_, rfl⟩
 rw [← hm] at h1 HF HE
 clear hr0 hs hm
 go_enter Try.func58, Try.ntmps58
 go_wp2_with (first | (go_at_call 74; (with_reducible refine h1.mono ?_); rintro e w1 ⟨v, rfl, hS, hb⟩; obtain ⟨A, c, rfl, hc, hC⟩ := Kd.S_reads hS; have h2 := HF.out A c w1 hC hc; have HB1 := Aside0.mk hb; clear hS hb hC h1) | (go_at_call 74; (with_reducible refine h2.mono ?_); rintro e w2 ⟨v2, rfl, hS, hb⟩; have HS2 := Aside0.mk (Kd.S_lower hS HB1.out.size); have HB2 := Aside0.mk (below_step HB1.out hb); clear hS hb))
 go_ret
 exact ⟨_, rfl, by rw [HE.out]; exact HS2.out, HB2.out⟩
end Go.Proofs.Ythlgclfhoeakgaa

namespace Go.Proofs.Ythlgclfhoeakgaa
open Go.RowKit Go.Proofs.Ythlgclfhoeakgaa.P Go.Proofs.Ythlgclfhoeakgaa.L Go.Proofs.YthlgclfhoeakgaaW.PrintWords Go.Proofs.YthlgclfhoeakgaaW.PrintLast Go.Proofs.YthlgclfhoeakgaaW.PrintMore
set_option linter.unusedVariables false
set_option linter.unusedSimpArgs false

theorem rows_cells (c : List (Nat × Nat)) : (rowsOf c).map toCell = c := by
 unfold rowsOf
 rw [List.map_map]
 conv => rhs; rw [← List.map_id c]
 apply List.map_congr_left
 intro d _
 exact toCell_toRow d
theorem rows_ok {n : Nat} {c : List (Nat × Nat)} (h : ∀ d ∈ c, inCells n d) : ∀ r ∈ rowsOf c, cellRow n r := by
 intro r hr
 obtain ⟨d, hd, rfl⟩ := List.mem_map.1 hr
 exact toRow_cell (h d hd)
theorem cellsOf_length (n : Nat) (p : Nat → Nat → Bool) (h : n ≤ 6) : (cellsOf n p).length ≤ 1000000 := by
 have h1 := allC_length p (n - 1) (n - 1)
 have h2 : (n - 1) * (n - 1) ≤ 6 * 6 := Nat.mul_le_mul (by omega) (by omega)
 unfold cellsOf
 omega
theorem impl_toggled.callsG (A0 : Option Addr) (c0 : Nat) (l0 : List (List Int)) (A1 : Option Addr) (c1 : Nat) (l1 : List (List Int)) (w : World) (hs : isSign l0 = true) (hC : ∀ r ∈ l1, cellRow l0.length r) (hl : l1.length ≤ 1000000)
  (hr0 : Kd.C (Kd.slice 3 (Kd.int .i64)) w A0 l0.length l0) (hc0 : l0.length ≤ c0) (hr1 : Kd.C (Kd.slice 3 (Kd.int .i64)) w A1 l1.length l1) (hc1 : l1.length ≤ c1) :
  Calls Try.prog 82 #[.slice A0 l0.length c0, .slice A1 l1.length c1] w (RetS w (toggledT l0 (l1.map toCell))) := by
 obtain ⟨k, hk⟩ := (toggled_ev l0 hs l1 hC hl).rounds
 exact impl_toggled.calls k A0 c0 l0 A1 c1 l1 _ w hr0 hc0 hr1 hc1 hk
/-- The table behind the first k colours of a list. -/
def flipsN (cl : List Int) (l : List (List Int)) : Nat → List (List Int)
 | 0 => l
 | k + 1 => flipT (flipsN cl l k) (rd cl (k : Int))
theorem flipsN_sign (cl : List Int) {l : List (List Int)} (hs : isSign l = true) : ∀ k, isSign (flipsN cl l k) = true
 | 0 => hs
 | k + 1 => flipT_sign (flipsN_sign cl hs k) _
theorem flipsN_length (cl : List Int) (l : List (List Int)) : ∀ k, (flipsN cl l k).length = l.length
 | 0 => rfl
 | k + 1 => by rw [flipsN, flipT_length, flipsN_length cl l k]
set_option maxHeartbeats 4000000 in
theorem impl_flipped.callsG (A0 : Option Addr) (c0 : Nat) (l0 : List (List Int)) (A1 : Option Addr) (c1 : Nat) (cl : List Int) (w : World) (hs : isSign l0 = true) (hp : 0 < cl.length)
  (hr0 : Kd.C (Kd.slice 3 (Kd.int .i64)) w A0 l0.length l0) (hc0 : l0.length ≤ c0) (hr1 : Kd.C (Kd.int .i64) w A1 cl.length cl) :
  Calls Try.prog 72 #[.slice A0 l0.length c0, .slice A1 cl.length c1] w (RetS w (flipsN cl l0 cl.length)) := by
 have hm := hr1.2.1
 have h6 := isSign_facts hs
 obtain ⟨h1, h2, _, _⟩ := h6
 have HR0 := Aside0.mk hr0
 have HR1 := Aside0.mk hr1
 have HS := Aside0.mk hs
 have HB := Aside0.mk (Below.refl w.heap.size w)
 have HC0 := Aside0.mk hc0
 clear hr0 hr1 hs hc0
 go_enter Try.func72, Try.ntmps72
 go_wp2
 go_loopg [0, 6, 9] cl.length (fun gg s0 s6 s9 wr => ∃ (k : Nat) (A : Option Addr) (c n : Nat), k ≤ cl.length ∧ cl.length - k ≤ gg ∧ s0 = .slice A n c ∧ s9 = .int .i64 k ∧ n = l0.length ∧ Aside0 (n ≤ c) ∧ Aside0 (Kd.C (Kd.slice 3 (Kd.int .i64)) wr A n (flipsN cl l0 k)) ∧ Aside0 (0 < k → Kd.S (Kd.slice 3 (Kd.int .i64)) 34 wr w.heap.size (fun _ => True) (.slice A n c) (flipsN cl l0 k)) ∧ Aside0 (Below w.heap.size w wr))
 case atStart => exact ⟨0, A0, c0, l0.length, Nat.zero_le _, Nat.le_refl _, rfl, rfl, rfl, HC0, ⟨HR0.out⟩, ⟨fun h => absurd h (Nat.lt_irrefl 0)⟩, HB⟩
 case round =>
  clear HB HR0 HC0
  obtain ⟨k, A, c, n, hk, hg, rfl, rfl, hnl, HCC, HC, HSS, HB⟩ := hrel
  have HNL := Aside0.mk hnl
  by_cases hlt : k < cl.length
  ·have hz : (k : Int) < (cl.length : Int) := by omega
   obtain ⟨ad, e0, hx⟩ := Kd.at_int HR1.out (k : Int) (by omega) hz
   cases e0
   simp only [Int.toNat_natCast] at hx
   replace hx := pw_cell_below HB.out hx
   have HEX := Aside0.mk (show flipsN cl l0 (k + 1) = flipT (flipsN cl l0 k) (rd cl (k : Int)) from rfl)
   have hsg := flipsN_sign cl HS.out k
   have hfl := flipsN_length cl l0 k
   obtain ⟨m, hmm⟩ : ∃ m, m = flipsN cl l0 k := ⟨_, rfl⟩
   rw [← hmm] at HC hsg hfl HEX
   obtain ⟨x, hxx⟩ : ∃ x, x = rd cl (k : Int) := ⟨_, rfl⟩
   rw [← hxx] at hx HEX
   have hmn : m.length = n := by omega
   have HCO := Aside0.mk (fun W => impl_coloured.callsG n x W (by omega) (by omega))
   have HLN := Aside0.mk (rowsOf_length (cellsOf n (colP x)))
   have HTG : Aside0 (∀ (A1 : Option Addr) (c1 : Nat) (W : World), Below wr.heap.size wr W → Kd.C (Kd.slice 3 (Kd.int .i64)) W A1 (rowsOf (cellsOf n (colP x))).length (rowsOf (cellsOf n (colP x))) → (rowsOf (cellsOf n (colP x))).length ≤ c1 → Calls Try.prog 82 #[.slice A n c, .slice A1 (rowsOf (cellsOf n (colP x))).length c1] W (RetS W (toggledT m (cellsOf n (colP x))))) := by
    refine ⟨fun A1 c1 W hb h1 hc1 => ?_⟩
    have := impl_toggled.callsG A c m A1 c1 (rowsOf (cellsOf n (colP x))) W hsg (by rw [hmn]; exact rows_ok (cellsOf_in _ _)) (by rw [rowsOf_length]; exact cellsOf_length _ _ (by omega)) (by rw [hmn]; exact Kd.C_below HC.out hb) (by rw [hmn]; exact HCC.out) h1 hc1
    rw [rows_cells, hmn] at this
    exact this
   have HEE := Aside0.mk (show flipsN cl l0 (k + 1) = toggledT m (cellsOf n (colP x)) by rw [HEX.out, flipT, hmn])
   have HTL := Aside0.mk (show (toggledT m (cellsOf n (colP x))).length = n by rw [toggledT_length, hmn])
   clear hsg hfl hmm hxx HEX HSS hnl hmn
   go_wp2_with (first | (go_at_call 83; refine (HCO.out _).mono ?_; rintro e w1 ⟨v1, rfl, hS, hb⟩; obtain ⟨A1, c1, rfl, hc1, hC1⟩ := Kd.S_reads hS; have HC1 := Aside0.mk hC1; have HC2 := Aside0.mk hc1; have HB1 := Aside0.mk hb; clear hS hb hC1 hc1) | (go_at_call 82; refine (HTG.out _ _ _ HB1.out HC1.out HC2.out).mono ?_; rintro e w2 ⟨v2, rfl, hS, hb⟩; obtain ⟨A2, c2, rfl, hc2, hC2⟩ := Kd.S_reads hS; rw [HTL.out] at hS hc2 hC2 ⊢; have HS2 := Aside0.mk hS; have HD2 := Aside0.mk hC2; have HE2 := Aside0.mk hc2; have HB2 := Aside0.mk (below_step HB1.out hb); have HB3 := Aside0.mk (below_step (below_then HB.out HB.out.size HB1.out) hb); clear hS hb hC2 hc2))
   go_roundg (cl.length - (k + 1))
   case measure => omega
   case rel => exact ⟨k + 1, A2, c2, n, by omega, by omega, rfl, by go_num, HNL.out, HE2, ⟨by rw [HEE.out]; exact HD2.out⟩, ⟨fun _ => by rw [HEE.out]; exact Kd.S_lower HS2.out (by have := HB.out.size; have := HB1.out.size; omega)⟩, HB3⟩
  ·have hz : ¬ (k : Int) < (cl.length : Int) := by omega
   have hkl : k = cl.length := by omega
   have HF := Aside0.mk (HSS.out (by omega))
   clear hnl
   subst hkl
   go_wp2
   go_ret
   exact ⟨_, rfl, HF.out, HB.out⟩
end Go.Proofs.Ythlgclfhoeakgaa

namespace Go.Proofs.Ythlgclfhoeakgaa
open Go.RowKit Go.Proofs.Ythlgclfhoeakgaa.P Go.Proofs.Ythlgclfhoeakgaa.L Go.Proofs.YthlgclfhoeakgaaW.PrintWords Go.Proofs.YthlgclfhoeakgaaW.PrintLast Go.Proofs.YthlgclfhoeakgaaW.PrintMore
set_option linter.unusedVariables false
set_option linter.unusedSimpArgs false

/-- Two numbers in a row of the call's own. -/
theorem two_C (w : World) (a b : Int) : Kd.C (Kd.int .i64) (w.alloc (.cells #[.int .i64 a, .int .i64 b] 3)) (some ⟨w.heap.size, 0, none⟩) 2 [a, b] := by
 have h : intBlk (w.alloc (.cells #[.int .i64 a, .int .i64 b] 3)) w.heap.size [a, b] := by
  have := blk_new w (.cells #[.int .i64 a, .int .i64 b] 3)
  exact this
 exact (Kd.R_reads' (intBlk_R (base := 0) (ok := fun _ => True) h (Nat.zero_le _) trivial (by simp))).2.2
theorem flipped_two (a b : Int) (A0 : Option Addr) (c0 : Nat) (l0 : List (List Int)) (w : World) (hs : isSign l0 = true) (hr0 : Kd.C (Kd.slice 3 (Kd.int .i64)) w A0 l0.length l0) (hc0 : l0.length ≤ c0) :
  Calls Try.prog 72 #[.slice A0 l0.length c0, .slice (some ⟨w.heap.size, 0, none⟩) 2 2] (w.alloc (.cells #[.int .i64 a, .int .i64 b] 3)) (RetS w (flip2 l0 a b)) := by
 have hb : Below w.heap.size w (w.alloc (.cells #[.int .i64 a, .int .i64 b] 3)) := below_alloc (Below.refl _ _) _
 have := impl_flipped.callsG A0 c0 l0 (some ⟨w.heap.size, 0, none⟩) 2 [a, b] _ hs (by simp) (Kd.C_below hr0 hb) hc0 (two_C w a b)
 exact this.mono fun e w' h => RetS.mono_ hb h
set_option maxHeartbeats 1000000 in
theorem impl_gyrated.callsG (A0 : Option Addr) (c0 : Nat) (l0 : List (List Int)) (w : World) (hs : isSign l0 = true) (hr0 : Kd.C (Kd.slice 3 (Kd.int .i64)) w A0 l0.length l0) (hc0 : l0.length ≤ c0) :
  Calls Try.prog 53 #[.slice A0 l0.length c0] w (RetS w (flip2 l0 0 1)) := by
 have h1 := flipped_two 0 1 A0 c0 l0 w hs hr0 hc0
 clear hr0 hs
 go_enter Try.func53, Try.ntmps53
 go_wp2_with (go_at_call 72; refine h1.mono ?_; rintro e w1 ⟨v, rfl, hS, hb⟩; have HS1 := Aside0.mk hS; have HB1 := Aside0.mk hb; clear hS hb)
 go_ret
 exact ⟨_, rfl, HS1.out, HB1.out⟩
end Go.Proofs.Ythlgclfhoeakgaa
