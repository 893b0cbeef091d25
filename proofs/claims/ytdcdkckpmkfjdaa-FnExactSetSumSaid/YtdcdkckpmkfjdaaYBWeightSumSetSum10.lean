/- Texts of one chain, in build order. -/
import Derived.Test.YtdcdkckpmkfjdaaYBWeightSumSetSum9
import Derived.Test.YtdcdkckpmkfjdaaWMore
namespace Go.Proofs.Ytdcdkckpmkfjdaa
open Go.RowKit Go.Proofs.YtdcdkckpmkfjdaaW.PrintWords Go.Proofs.YtdcdkckpmkfjdaaW.PrintLast Go.Proofs.YtdcdkckpmkfjdaaW.PrintMore
set_option linter.unusedVariables false
set_option linter.unusedSimpArgs false

def inW (x : Int) : Prop := -9223372036854775808 ≤ x ∧ x ≤ 9223372036854775807
theorem wrap_in (x : Int) : inW (wrap64 x) := by unfold inW wrap64; omega
theorem cnt1_in (c : List Int) (x : Int) (h : ∀ y ∈ c, inW y) : ∀ y ∈ cnt1 c x, inW y := by
 intro y hy
 rcases List.mem_or_eq_of_mem_set hy with h1 | h1
 ·exact h y h1
 ·rw [h1]; exact wrap_in _
theorem cntRow_in : ∀ (row c : List Int), (∀ y ∈ c, inW y) → ∀ y ∈ cntRow row c, inW y
 | [], c, h => h
 | x :: r, c, h => cntRow_in r (cnt1 c x) (cnt1_in c x h)
theorem cntAll_in : ∀ (T : List (List Int)) (c : List Int), (∀ y ∈ c, inW y) → ∀ y ∈ cntAll T c, inW y
 | [], c, h => h
 | r :: T, c, h => cntAll_in T (cntRow r c) (cntRow_in r c h)
theorem countsM_in (m : List (List Int)) (i : Nat) (hi : i < 6) : rd (countsM m) (i : Int) ≤ 9223372036854775807 := by
 rw [L.rd_at _ _ (by rw [countsM_length]; exact hi)]
 exact (cntAll_in (kindsM m) (List.replicate 6 0) (fun y hy => by rw [(List.mem_replicate.1 hy).2]; exact ⟨by decide, by decide⟩) _ (List.getElem_mem _)).2
/-- The weight. -/
def weightC (c : List Int) (x y z : Int) : Int := wrap64 (wrap64 (L.pw x (wrap64 (rd c 0 + rd c 3)).toNat * L.pw y (wrap64 (rd c 1 + rd c 2)).toNat) * L.pw z (rd c 5).toNat)

theorem spec_wePower.calls' (a n : Int) (w : World) (h : n ≤ 9223372036854775807) :
  Calls Try.prog 78 #[.int .i64 a, .int .i64 n] w fun e w' => e = .returned (.int .i64 (L.pw a n.toNat)) ∧ Drawn0 w w' := by
 obtain ⟨k, hk⟩ := (L.spec_power_ev a n h).rounds
 exact P.spec_wePower.calls k a n _ w hk
set_option maxHeartbeats 4000000 in
theorem spec_weWeight.callsG (A0 : Option Addr) (c0 : Nat) (l0 : List (List Int)) (a1 a2 a3 : Int) (w : World) (hs : isSign l0 = true) (hr0 : Kd.C (Kd.slice 3 (Kd.int .i64)) w A0 l0.length l0) (hc0 : l0.length ≤ c0) :
  Calls Try.prog 67 #[.slice A0 l0.length c0, .int .i64 a1, .int .i64 a2, .int .i64 a3] w fun e w' => e = .returned (.int .i64 (weightC (countsM l0) a1 a2 a3)) ∧ Below w.heap.size w w' := by
 have hcnt := spec_weCountsY.calls A0 c0 l0 (countsM l0) w hr0 hc0 (by unfold spec_weCountsY.f; rw [if_pos hs])
 have h5 := countsM_in l0 5 (by omega)
 have hcl := countsM_length l0
 clear hr0 hc0 hs
 obtain ⟨c, hc⟩ : ∃ c, c = countsM l0 := ⟨_, rfl⟩
 rw [← hc] at hcnt h5 hcl ⊢
 clear hc
 have HE := Aside0.mk (show weightC c a1 a2 a3 = wrap64 (wrap64 (L.pw a1 (wrap64 (rd c 0 + rd c 3)).toNat * L.pw a2 (wrap64 (rd c 1 + rd c 2)).toNat) * L.pw a3 (rd c 5).toNat) from rfl)
 have hp1 := fun W => spec_wePower.calls' a1 (wrap64 (rd c 0 + rd c 3)) W (wrap_in _).2
 have hp2 := fun W => spec_wePower.calls' a2 (wrap64 (rd c 1 + rd c 2)) W (wrap_in _).2
 have hp3 := fun W => spec_wePower.calls' a3 (rd c 5) W h5
 obtain ⟨x0, e0⟩ : ∃ x, x = rd c 0 := ⟨_, rfl⟩
 obtain ⟨x1, e1⟩ : ∃ x, x = rd c 1 := ⟨_, rfl⟩
 obtain ⟨x2, e2⟩ : ∃ x, x = rd c 2 := ⟨_, rfl⟩
 obtain ⟨x3, e3⟩ : ∃ x, x = rd c 3 := ⟨_, rfl⟩
 obtain ⟨x5, e5⟩ : ∃ x, x = rd c 5 := ⟨_, rfl⟩
 have hget : ∀ (w1 : World) (A2 : Option Addr) (c2 : Nat), Kd.R (Kd.int .i64) 3 w1 w.heap.size (fun _ => True) (.slice A2 c.length c2) c → ∃ g, A2 = some ⟨g, 0, none⟩ ∧ w1.cell? ⟨g, 0, none⟩ = some (.int .i64 x0) ∧ w1.cell? ⟨g, 1, none⟩ = some (.int .i64 x1) ∧ w1.cell? ⟨g, 2, none⟩ = some (.int .i64 x2) ∧ w1.cell? ⟨g, 3, none⟩ = some (.int .i64 x3) ∧ w1.cell? ⟨g, 5, none⟩ = some (.int .i64 x5) := by
  intro w1 A2 c2 hR
  have hC := (Kd.R_reads' hR).2.2
  obtain ⟨ad, q0, y0⟩ := Kd.at_int hC 0 (by omega) (by omega)
  cases q0
  obtain ⟨g, rfl⟩ := Kd.R_head hR
  obtain ⟨_, q1, y1⟩ := Kd.at_int hC 1 (by omega) (by omega)
  cases q1
  obtain ⟨_, q1, y2⟩ := Kd.at_int hC 2 (by omega) (by omega)
  cases q1
  obtain ⟨_, q1, y3⟩ := Kd.at_int hC 3 (by omega) (by omega)
  cases q1
  obtain ⟨_, q1, y5⟩ := Kd.at_int hC 5 (by omega) (by omega)
  cases q1
  rw [← e0] at y0
  rw [← e1] at y1
  rw [← e2] at y2
  rw [← e3] at y3
  rw [← e5] at y5
  exact ⟨g, rfl, y0, y1, y2, y3, y5⟩
 rw [← e0, ← e1, ← e2, ← e3, ← e5] at HE
 rw [← e0, ← e3] at hp1
 rw [← e1, ← e2] at hp2
 rw [← e5] at hp3
 clear e0 e1 e2 e3 e5 h5
 simp only [← i64_w] at hp1 hp2 HE
 have HG := Aside0.mk hget
 have HL := Aside0.mk hcl
 clear hget
 go_enter Try.func67, Try.ntmps67
 go_wp2_with (go_at_call 77; refine hcnt.mono ?_; rintro e w1 ⟨v, rfl, hR, hb⟩; obtain ⟨A2, c2, rfl⟩ := Kd.R_slice hR; obtain ⟨g, rfl, y0, y1, y2, y3, y5⟩ := HG.out _ _ _ hR; have HB := Aside0.mk hb; clear hR hb)
 go_region_held3 (fun W => W.cell? ⟨g, 0, none⟩ = some (.int .i64 x0) ∧ W.cell? ⟨g, 1, none⟩ = some (.int .i64 x1) ∧ W.cell? ⟨g, 2, none⟩ = some (.int .i64 x2) ∧ W.cell? ⟨g, 3, none⟩ = some (.int .i64 x3) ∧ W.cell? ⟨g, 5, none⟩ = some (.int .i64 x5) ∧ Below w.heap.size w W) (first | (refine ⟨by simp [*], by simp [*], by simp [*], by simp [*], by simp [*], ?_⟩; repeat (first | assumption | exact HB.out | apply below_drew | apply pw_below_drewN))) (first | (go_at_call 78; (with_reducible refine (hp1 _).mono ?_); rintro e w2 ⟨rfl, ⟨nd1, rfl⟩⟩) | (go_at_call 78; (with_reducible refine (hp2 _).mono ?_); rintro e w2 ⟨rfl, ⟨nd2, rfl⟩⟩) | (go_at_call 78; (with_reducible refine (hp3 _).mono ?_); rintro e w2 ⟨rfl, ⟨nd3, rfl⟩⟩))
 all_goals
  go_wp2
  go_ret
  exact ⟨by first | rfl | (rw [HE.out]; rfl), by repeat (first | exact HB.out | apply below_drew | apply pw_below_drewN)⟩

theorem impl_power.calls' (a n : Int) (w : World) (h : n ≤ 9223372036854775807) :
  Calls Try.prog 79 #[.int .i64 a, .int .i64 n] w fun e w' => e = .returned (.int .i64 (L.pw a n.toNat)) ∧ Drawn0 w w' := by
 obtain ⟨k, hk⟩ := (L.impl_power_ev a n h).rounds
 exact P.impl_power.calls k a n _ w hk
set_option maxHeartbeats 4000000 in
theorem impl_weight.callsG (A0 : Option Addr) (c0 : Nat) (l0 : List (List Int)) (a1 a2 a3 : Int) (w : World) (hs : isSign l0 = true) (hr0 : Kd.C (Kd.slice 3 (Kd.int .i64)) w A0 l0.length l0) (hc0 : l0.length ≤ c0) :
  Calls Try.prog 71 #[.slice A0 l0.length c0, .int .i64 a1, .int .i64 a2, .int .i64 a3] w fun e w' => e = .returned (.int .i64 (weightC (countsM l0) a1 a2 a3)) ∧ Below w.heap.size w w' := by
 have hcnt := impl_kindCounts.calls A0 c0 l0 (countsM l0) w hr0 hc0 (by unfold impl_kindCounts.f; rw [if_pos hs])
 have h5 := countsM_in l0 5 (by omega)
 have hcl := countsM_length l0
 clear hr0 hc0 hs
 obtain ⟨c, hc⟩ : ∃ c, c = countsM l0 := ⟨_, rfl⟩
 rw [← hc] at hcnt h5 hcl ⊢
 clear hc
 have HE := Aside0.mk (show weightC c a1 a2 a3 = wrap64 (wrap64 (L.pw a1 (wrap64 (rd c 0 + rd c 3)).toNat * L.pw a2 (wrap64 (rd c 1 + rd c 2)).toNat) * L.pw a3 (rd c 5).toNat) from rfl)
 have hp1 := fun W => impl_power.calls' a1 (wrap64 (rd c 0 + rd c 3)) W (wrap_in _).2
 have hp2 := fun W => impl_power.calls' a2 (wrap64 (rd c 1 + rd c 2)) W (wrap_in _).2
 have hp3 := fun W => impl_power.calls' a3 (rd c 5) W h5
 obtain ⟨x0, e0⟩ : ∃ x, x = rd c 0 := ⟨_, rfl⟩
 obtain ⟨x1, e1⟩ : ∃ x, x = rd c 1 := ⟨_, rfl⟩
 obtain ⟨x2, e2⟩ : ∃ x, x = rd c 2 := ⟨_, rfl⟩
 obtain ⟨x3, e3⟩ : ∃ x, x = rd c 3 := ⟨_, rfl⟩
 obtain ⟨x5, e5⟩ : ∃ x, x = rd c 5 := ⟨_, rfl⟩
 have hget : ∀ (w1 : World) (A2 : Option Addr) (c2 : Nat), Kd.R (Kd.int .i64) 3 w1 w.heap.size (fun _ => True) (.slice A2 c.length c2) c → ∃ g, A2 = some ⟨g, 0, none⟩ ∧ w1.cell? ⟨g, 0, none⟩ = some (.int .i64 x0) ∧ w1.cell? ⟨g, 1, none⟩ = some (.int .i64 x1) ∧ w1.cell? ⟨g, 2, none⟩ = some (.int .i64 x2) ∧ w1.cell? ⟨g, 3, none⟩ = some (.int .i64 x3) ∧ w1.cell? ⟨g, 5, none⟩ = some (.int .i64 x5) := by
  intro w1 A2 c2 hR
  have hC := (Kd.R_reads' hR).2.2
  obtain ⟨ad, q0, y0⟩ := Kd.at_int hC 0 (by omega) (by omega)
  cases q0
  obtain ⟨g, rfl⟩ := Kd.R_head hR
  obtain ⟨_, q1, y1⟩ := Kd.at_int hC 1 (by omega) (by omega)
  cases q1
  obtain ⟨_, q1, y2⟩ := Kd.at_int hC 2 (by omega) (by omega)
  cases q1
  obtain ⟨_, q1, y3⟩ := Kd.at_int hC 3 (by omega) (by omega)
  cases q1
  obtain ⟨_, q1, y5⟩ := Kd.at_int hC 5 (by omega) (by omega)
  cases q1
  rw [← e0] at y0
  rw [← e1] at y1
  rw [← e2] at y2
  rw [← e3] at y3
  rw [← e5] at y5
  exact ⟨g, rfl, y0, y1, y2, y3, y5⟩
 rw [← e0, ← e1, ← e2, ← e3, ← e5] at HE
 rw [← e0, ← e3] at hp1
 rw [← e1, ← e2] at hp2
 rw [← e5] at hp3
 clear e0 e1 e2 e3 e5 h5
 simp only [← i64_w] at hp1 hp2 HE
 have HG := Aside0.mk hget
 have HL := Aside0.mk hcl
 clear hget
 go_enter Try.func71, Try.ntmps71
 go_wp2_with (go_at_call 117; refine hcnt.mono ?_; rintro e w1 ⟨v, rfl, hR, hb⟩; obtain ⟨A2, c2, rfl⟩ := Kd.R_slice hR; obtain ⟨g, rfl, y0, y1, y2, y3, y5⟩ := HG.out _ _ _ hR; have HB := Aside0.mk hb; clear hR hb)
 go_region_held3 (fun W => W.cell? ⟨g, 0, none⟩ = some (.int .i64 x0) ∧ W.cell? ⟨g, 1, none⟩ = some (.int .i64 x1) ∧ W.cell? ⟨g, 2, none⟩ = some (.int .i64 x2) ∧ W.cell? ⟨g, 3, none⟩ = some (.int .i64 x3) ∧ W.cell? ⟨g, 5, none⟩ = some (.int .i64 x5) ∧ Below w.heap.size w W) (first | (refine ⟨by simp [*], by simp [*], by simp [*], by simp [*], by simp [*], ?_⟩; repeat (first | assumption | exact HB.out | apply below_drew | apply pw_below_drewN))) (first | (go_at_call 79; (with_reducible refine (hp1 _).mono ?_); rintro e w2 ⟨rfl, ⟨nd1, rfl⟩⟩) | (go_at_call 79; (with_reducible refine (hp2 _).mono ?_); rintro e w2 ⟨rfl, ⟨nd2, rfl⟩⟩) | (go_at_call 79; (with_reducible refine (hp3 _).mono ?_); rintro e w2 ⟨rfl, ⟨nd3, rfl⟩⟩))
 all_goals
  go_wp2
  go_ret
  exact ⟨by first | rfl | (rw [HE.out]; rfl), by repeat (first | exact HB.out | apply below_drew | apply pw_below_drewN)⟩

def spec_weWeight.f (l0 : List (List Int)) (a1 a2 a3 : Int) : Option Int := if isSign l0 = true then some (weightC (countsM l0) a1 a2 a3) else none
theorem spec_weWeight.calls (A0 : Option Addr) (c0 : Nat) (l0 : List (List Int)) (a1 : Int) (a2 : Int) (a3 : Int) (r : Int) (w : World) (hr0 : Kd.C (Kd.slice 3 (Kd.int .i64)) w A0 l0.length l0) (hc0 : l0.length ≤ c0) (h : spec_weWeight.f l0 a1 a2 a3 = some r) :
  Calls Try.prog 67 #[.slice A0 l0.length c0, .int .i64 a1, .int .i64 a2, .int .i64 a3] w fun e w' => e = .returned (.int .i64 r) ∧ Below w.heap.size w w' := by
 unfold spec_weWeight.f at h
 by_cases hs : isSign l0 = true
 ·rw [if_pos hs] at h
  obtain rfl := Option.some.inj h
  exact spec_weWeight.callsG A0 c0 l0 a1 a2 a3 w hs hr0 hc0
 ·rw [if_neg hs] at h
  cases h

def impl_weight.f (l0 : List (List Int)) (a1 a2 a3 : Int) : Option Int := if isSign l0 = true then some (weightC (countsM l0) a1 a2 a3) else none
theorem impl_weight.calls (A0 : Option Addr) (c0 : Nat) (l0 : List (List Int)) (a1 : Int) (a2 : Int) (a3 : Int) (r : Int) (w : World) (hr0 : Kd.C (Kd.slice 3 (Kd.int .i64)) w A0 l0.length l0) (hc0 : l0.length ≤ c0) (h : impl_weight.f l0 a1 a2 a3 = some r) :
  Calls Try.prog 71 #[.slice A0 l0.length c0, .int .i64 a1, .int .i64 a2, .int .i64 a3] w fun e w' => e = .returned (.int .i64 r) ∧ Below w.heap.size w w' := by
 unfold impl_weight.f at h
 by_cases hs : isSign l0 = true
 ·rw [if_pos hs] at h
  obtain rfl := Option.some.inj h
  exact impl_weight.callsG A0 c0 l0 a1 a2 a3 w hs hr0 hc0
 ·rw [if_neg hs] at h
  cases h
end Go.Proofs.Ytdcdkckpmkfjdaa
