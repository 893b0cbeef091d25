/- Texts of one chain, in build order. -/
import Derived.Test.YtkiloimggmpggaaYLambdaSum25
namespace Go.Proofs.Ytkiloimggmpggaa
open Go.RowKit Go.Proofs.Ytkiloimggmpggaa.P Go.Proofs.Ytkiloimggmpggaa.L Go.Proofs.YtkiloimggmpggaaW.PrintWords Go.Proofs.YtkiloimggmpggaaW.PrintLast Go.Proofs.YtkiloimggmpggaaW.PrintMore
set_option linter.unusedVariables false
set_option linter.unusedSimpArgs false
set_option maxRecDepth 100000

/-- One more sign matrix. -/
def stepL (k : Nat) (t : List (List Int)) (lam : Int) (T : List (List Int)) (s : Int × Int) : Option (Int × Int) :=
 (impl_kindCounts.f T).bind fun c => if c.length = 6 then (P.impl_powerOf.f k T t).bind fun p => (P.impl_power.f k lam (rd c 0)).bind fun x => (P.impl_power.f k (wrap64 (1 + lam)) (rd c 5)).bind fun y => (P.impl_Ratio_times.f k p.1 p.2 (wrap64 (x * y)) 1).bind fun q => P.impl_Ratio_plus.f k s.1 s.2 q.1 q.2 else none
def runL (k : Nat) (t : List (List Int)) (lam : Int) : List (List (List Int)) → (Int × Int) → Option (Int × Int)
 | [], s => some s
 | T :: L, s => (stepL k t lam T s).bind fun s2 => runL k t lam L s2
def csL (k : Nat) (t : List (List Int)) (lam : Int) : List (List (List Int)) → (Int × Int) → Nat → Int × Int
 | _, s, 0 => s
 | [], s, _ + 1 => s
 | T :: L, s, j + 1 => csL k t lam L ((stepL k t lam T s).getD s) j
theorem csL_run (k : Nat) (t : List (List Int)) (lam : Int) : ∀ (L : List (List (List Int))) (s r : Int × Int), runL k t lam L s = some r → (∀ (j : Nat) (T : List (List Int)), L[j]? = some T → stepL k t lam T (csL k t lam L s j) = some (csL k t lam L s (j + 1))) ∧ csL k t lam L s L.length = r
 | [], s, r, h => ⟨fun j T hT => by simp at hT, by simp only [runL, Option.some.injEq] at h; subst h; rfl⟩
 | T0 :: L, s, r, h => by
  rw [runL] at h
  obtain ⟨s2, h1, h2⟩ := Option.bind_eq_some_iff.1 h
  obtain ⟨h3, h4⟩ := csL_run k t lam L s2 r h2
  refine ⟨fun j T hT => ?_, ?_⟩
  ·cases j with
   | zero =>
    simp only [List.getElem?_cons_zero, Option.some.injEq] at hT
    subst hT
    have e : csL k t lam (T0 :: L) s (0 + 1) = s2 := by simp only [csL, h1, Option.getD_some]
    rw [e]
    exact h1
   | succ j =>
    have := h3 j T (by simpa using hT)
    simp only [csL, h1, Option.getD_some] at this ⊢
    exact this
  ·simp only [List.length_cons, csL, h1, Option.getD_some]
   exact h4
/-- The state of LambdaSum: the variable bo holds the sum. -/
def LaSt (W0 : World) (B bo : Nat) (cs : Nat → Int × Int) (j : Nat) (W : World) (ok : Nat → Prop) : Prop :=
 (ok = fun k => k < W0.heap.size) ∧ W0.heap.size ≤ W.heap.size ∧ (∀ k, k < B → W.heap[k]? = W0.heap[k]?) ∧ W.heap[bo]? = some (.cells #[.int .i64 (cs j).1, .int .i64 (cs j).2] 25 (0, 0))
theorem heap_grewL {a b c : World} (h : a.heap.size ≤ b.heap.size) (hm : ∀ k, k < a.heap.size → c.heap[k]? = b.heap[k]?) : a.heap.size ≤ c.heap.size := by
 rcases Nat.lt_or_ge 0 a.heap.size with h0 | h0
 ·have h1 := hm (a.heap.size - 1) (by omega)
  have h2 : (b.heap[a.heap.size - 1]?).isSome = true := by rw [Array.getElem?_eq_getElem (by omega)]; rfl
  rw [← h1] at h2
  rcases Nat.lt_or_ge (a.heap.size - 1) c.heap.size with h3 | h3
  ·omega
  ·rw [Array.getElem?_eq_none h3] at h2; cases h2
 ·omega
theorem LaSt.stays (W0 : World) (B bo : Nat) (cs : Nat → Int × Int) (hB : B ≤ W0.heap.size) (hbo : bo < W0.heap.size) : Stays (LaSt W0 B bo cs) := by
 refine ⟨?_, ?_⟩
 ·rintro j W ok ⟨rfl, hs, _, _⟩ k hk
  exact Nat.lt_of_lt_of_le hk hs
 ·rintro j W W' ok ⟨rfl, hs, hB2, hc⟩ hm
  exact ⟨rfl, heap_grewL hs (fun k hk => hm k hk), fun k hk => (hm k (show k < W0.heap.size by omega)).trans (hB2 k hk), (hm bo hbo).trans hc⟩
set_option maxHeartbeats 8000000 in
theorem LambdaSum_1.calls (W0 : World) (B bt bl bo : Nat) (cs : Nat → Int × Int) (tab : List (List Int)) (At : Option Addr) (ct : Nat) (lam : Int) (k : Nat) (hbt : bt < B) (hbl : bl < B) (hB : B ≤ bo) (hbo : bo < W0.heap.size)
  (ht : W0.heap[bt]? = some (.cells #[.slice At tab.length ct] 22 (0, 0))) (hl : W0.heap[bl]? = some (.cells #[.int .i64 lam] 3 (0, 0)))
  (htab : Kd.F (Kd.slice 3 (Kd.int .i64)) W0 (fun k => k < B) At tab.length tab) (hct : tab.length ≤ ct)
  (j : Nat) (T : List (List Int)) (A : Option Addr) (c : Nat) (W : World) (ok : Nat → Prop) (hstep : stepL k tab lam T (cs j) = some (cs (j + 1))) (hst : LaSt W0 B bo cs j W ok) (hF : Kd.F (Kd.slice 3 (Kd.int .i64)) W (fun k => ¬ ok k ∧ k < W.heap.size) A T.length T) (hc : T.length ≤ c) :
  Calls Try.prog 33 (#[.slice A T.length c] ++ #[.pointer (some ⟨bo, 0, none⟩), .pointer (some ⟨bt, 0, none⟩), .pointer (some ⟨bl, 0, none⟩)]) W (Stepped (LaSt W0 B bo cs) (j + 1) W ok) := by
 obtain ⟨rfl, hsz, hlow, hcell⟩ := hst
 unfold stepL at hstep
 obtain ⟨kc, hkc, hstep⟩ := Option.bind_eq_some_iff.1 hstep
 split at hstep
 case isFalse => cases hstep
 rename_i hkl
 obtain ⟨⟨p0, p1⟩, hpo, hstep⟩ := Option.bind_eq_some_iff.1 hstep
 obtain ⟨x, hx, hstep⟩ := Option.bind_eq_some_iff.1 hstep
 obtain ⟨y, hy, hstep⟩ := Option.bind_eq_some_iff.1 hstep
 obtain ⟨⟨q0, q1⟩, hq, hstep⟩ := Option.bind_eq_some_iff.1 hstep
 obtain ⟨s0, es0⟩ : ∃ s, s = (cs j).1 := ⟨_, rfl⟩
 obtain ⟨s1, es1⟩ : ∃ s, s = (cs j).2 := ⟨_, rfl⟩
 obtain ⟨r0, er0⟩ : ∃ s, s = (cs (j + 1)).1 := ⟨_, rfl⟩
 obtain ⟨r1, er1⟩ : ∃ s, s = (cs (j + 1)).2 := ⟨_, rfl⟩
 have hr : P.impl_Ratio_plus.f k s0 s1 q0 q1 = some (r0, r1) := by rw [es0, es1, er0, er1]; exact hstep
 rw [← es0, ← es1] at hcell
 clear hstep
 obtain ⟨x0, e0⟩ : ∃ x, x = rd kc 0 := ⟨_, rfl⟩
 obtain ⟨x5, e5⟩ : ∃ x, x = rd kc 5 := ⟨_, rfl⟩
 rw [← e0] at hx
 rw [← e5] at hy
 have hget : ∀ (w1 : World) (A2 : Option Addr) (c2 : Nat), Kd.R (Kd.int .i64) 3 w1 W.heap.size (fun _ => True) (.slice A2 kc.length c2) kc → ∃ g, A2 = some ⟨g, 0, none⟩ ∧ w1.cell? ⟨g, 0, none⟩ = some (.int .i64 x0) ∧ w1.cell? ⟨g, 5, none⟩ = some (.int .i64 x5) := by
  intro w1 A2 c2 hR
  have hC := (Kd.R_reads' hR).2.2
  obtain ⟨ad, q0, y0⟩ := Kd.at_int hC 0 (by omega) (by omega)
  cases q0
  obtain ⟨g, rfl⟩ := Kd.R_head hR
  obtain ⟨_, q1, y5⟩ := Kd.at_int hC 5 (by omega) (by omega)
  cases q1
  rw [← e0] at y0
  rw [← e5] at y5
  exact ⟨g, rfl, y0, y5⟩
 have hlow2 : ∀ W', Below W.heap.size W W' → ∀ k, k < B → W'.heap[k]? = W0.heap[k]? := fun W' hb k hk => (hb.block k (by omega)).trans (hlow k hk)
 have HKC := Aside0.mk (impl_kindCounts.calls A c T kc W (Kd.F_now hF) hc hkc)
 have HPO := Aside0.mk (fun W' (hb : Below W.heap.size W W') => P.impl_powerOf.calls k A c T At ct tab p0 p1 W' (Kd.F_now (Kd.F_below hF hb)) hc (Kd.F_now (Kd.F_step htab (fun k hk _ => hlow2 W' hb k hk))) hct hpo)
 have HPA := Aside0.mk (fun W' => P.impl_power.calls k lam x0 x W' hx)
 have HPB := Aside0.mk (fun W' => P.impl_power.calls k (wrap64 (1 + lam)) x5 y W' hy)
 have HTI := Aside0.mk (fun W' => P.impl_Ratio_times.calls k p0 p1 (wrap64 (x * y)) 1 q0 q1 W' hq)
 have HPL := Aside0.mk (fun W' => P.impl_Ratio_plus.calls k s0 s1 q0 q1 r0 r1 W' hr)
 have HG := Aside0.mk hget
 have HBO := Aside0.mk hcell
 have HSZ := Aside0.mk hsz
 have HLOW := Aside0.mk hlow2
 have HER := Aside0.mk (And.intro er0 er1)
 have ht0 : W.cell? ⟨bt, 0, none⟩ = some (.slice At tab.length ct) := blk_cell ((hlow bt hbt).trans ht) 0
 have hl0 : W.cell? ⟨bl, 0, none⟩ = some (.int .i64 lam) := blk_cell ((hlow bl hbl).trans hl) 0
 have hu25 := Try.underlying25
 clear hkc hpo hx hy hq hr hget hcell hsz hlow hlow2 hF hc hct htab ht hl e0 e5 es0 es1 er0 er1
 go_enter Try.func33, Try.ntmps33
 go_wp2_with (go_at_call 34; refine HKC.out.mono ?_; rintro e w1 ⟨v, rfl, hR, hb⟩; obtain ⟨A2, c2, rfl⟩ := Kd.R_slice hR; obtain ⟨g, rfl, hk5, hk6⟩ := HG.out _ _ _ hR; have hk1 := pw_cell_below hb (blk_cell HBO.out 0); have hk2 := pw_cell_below hb (blk_cell HBO.out 1); have hk3 := pw_cell_below hb ht0; have hk4 := pw_cell_below hb hl0; have HB := Aside0.mk hb; clear hR hb)
 refine start_ (n := 20) (S := fun w' => w'.cell? ⟨bo, 0, none⟩ = some (.int .i64 s0) ∧ w'.cell? ⟨bo, 1, none⟩ = some (.int .i64 s1) ∧ w'.cell? ⟨bt, 0, none⟩ = some (.slice At tab.length ct) ∧ w'.cell? ⟨bl, 0, none⟩ = some (.int .i64 lam) ∧ w'.cell? ⟨g, 0, none⟩ = some (.int .i64 x0) ∧ w'.cell? ⟨g, 5, none⟩ = some (.int .i64 x5) ∧ Below W.heap.size W w') (ds := [19]) #[false, false, false, false, false, false, false, false, false, false, false, false, false, false, false, false, false, false, false, false] (by kernel_rfl) rfl rfl ⟨hk1, hk2, hk3, hk4, hk5, hk6, below_drew1 HB.out⟩ (fun hHeld => ?_)
 generalize hgen_ : World.drew w1 = w3 at hHeld ⊢
 refine take_ (i := 0) (N := some 9) (v := ?_) (a' := ?_) #[true, false, false, false, false, false, false, false, false, false, false, false, false, false, false, false, false, false, false, false] rfl rfl (by kernel_rfl) (fun _ _ _ h => h) (Or.inl ⟨by rfl, ?_⟩) hHeld ?_ ?_
 rotate_left
 ·rintro w' ⟨s0_, s1_, s2_, s3_, s4_, s5_, s6_⟩; go_simp; with_reducible rfl
 rotate_left
 ·simp only [Act.put, List.setIfInBounds_toArray, List.set_cons_zero, List.set_cons_succ, i64_w, i32_w]; rfl
 refine pure_ (i := 1) (N := some 10) (v := ?_) (a' := ?_) #[true, true, false, false, false, false, false, false, false, false, false, false, false, false, false, false, false, false, false, false] rfl rfl (by kernel_rfl) (fun _ _ _ h => h) (Or.inl ⟨by rfl, ?_⟩) ?_ ?_
 rotate_left
 ·intro w'; go_simp; with_reducible rfl
 rotate_left
 ·simp only [Act.put, List.setIfInBounds_toArray, List.set_cons_zero, List.set_cons_succ, i64_w, i32_w]; rfl
 refine take_ (i := 2) (N := some 11) (v := ?_) (a' := ?_) #[true, true, true, false, false, false, false, false, false, false, false, false, false, false, false, false, false, false, false, false] rfl rfl (by kernel_rfl) (fun _ _ _ h => h) (Or.inl ⟨by rfl, ?_⟩) hHeld ?_ ?_
 rotate_left
 ·rintro w' ⟨s0_, s1_, s2_, s3_, s4_, s5_, s6_⟩; go_simp; with_reducible rfl
 rotate_left
 ·simp only [Act.put, List.setIfInBounds_toArray, List.set_cons_zero, List.set_cons_succ, i64_w, i32_w]; rfl
 refine take_ (i := 4) (N := some 13) (v := ?_) (a' := ?_) #[true, true, true, false, true, false, false, false, false, false, false, false, false, false, false, false, false, false, false, false] rfl rfl (by kernel_rfl) (fun _ _ _ h => h) (Or.inl ⟨by rfl, ?_⟩) hHeld ?_ ?_
 rotate_left
 ·rintro w' ⟨s0_, s1_, s2_, s3_, s4_, s5_, s6_⟩; go_simp; with_reducible rfl
 rotate_left
 ·simp only [Act.put, List.setIfInBounds_toArray, List.set_cons_zero, List.set_cons_succ, i64_w, i32_w]; rfl
 refine pure_ (i := 5) (N := some 14) (v := ?_) (a' := ?_) #[true, true, true, false, true, true, false, false, false, false, false, false, false, false, false, false, false, false, false, false] rfl rfl (by kernel_rfl) (fun _ _ _ h => h) (Or.inl ⟨by rfl, ?_⟩) ?_ ?_
 rotate_left
 ·intro w'; go_simp; with_reducible rfl
 rotate_left
 ·simp only [Act.put, List.setIfInBounds_toArray, List.set_cons_zero, List.set_cons_succ, i64_w, i32_w]; rfl
 refine pure_ (i := 6) (N := some 15) (v := ?_) (a' := ?_) #[true, true, true, false, true, true, true, false, false, false, false, false, false, false, false, false, false, false, false, false] rfl rfl (by kernel_rfl) (fun _ _ _ h => h) (Or.inl ⟨by rfl, ?_⟩) ?_ ?_
 rotate_left
 ·intro w'; go_simp; with_reducible rfl
 rotate_left
 ·simp only [Act.put, List.setIfInBounds_toArray, List.set_cons_zero, List.set_cons_succ, i64_w, i32_w]; rfl
 refine take_ (i := 7) (N := some 16) (v := ?_) (a' := ?_) #[true, true, true, false, true, true, true, true, false, false, false, false, false, false, false, false, false, false, false, false] rfl rfl (by kernel_rfl) (fun _ _ _ h => h) (Or.inl ⟨by rfl, ?_⟩) hHeld ?_ ?_
 rotate_left
 ·rintro w' ⟨s0_, s1_, s2_, s3_, s4_, s5_, s6_⟩; go_simp; with_reducible rfl
 rotate_left
 ·simp only [Act.put, List.setIfInBounds_toArray, List.set_cons_zero, List.set_cons_succ, i64_w, i32_w]; rfl
 refine take_ (i := 9) (N := some 18) (v := ?_) (a' := ?_) #[true, true, true, false, true, true, true, true, false, true, false, false, false, false, false, false, false, false, false, false] rfl rfl (by kernel_rfl) (fun _ _ _ h => h) (Or.inl ⟨by rfl, ?_⟩) hHeld ?_ ?_
 rotate_left
 ·rintro w' ⟨s0_, s1_, s2_, s3_, s4_, s5_, s6_⟩; go_simp; with_reducible rfl
 rotate_left
 ·simp only [Act.put, List.setIfInBounds_toArray, List.set_cons_zero, List.set_cons_succ, i64_w, i32_w]; rfl
 refine pure_ (i := 10) (N := some 19) (v := ?_) (a' := ?_) #[true, true, true, false, true, true, true, true, false, true, true, false, false, false, false, false, false, false, false, false] rfl rfl (by kernel_rfl) (fun _ _ _ h => h) (Or.inl ⟨by rfl, ?_⟩) ?_ ?_
 rotate_left
 ·intro w'; go_simp; with_reducible rfl
 rotate_left
 ·simp only [Act.put, List.setIfInBounds_toArray, List.set_cons_zero, List.set_cons_succ, i64_w, i32_w]; rfl
 refine pure_ (i := 11) (N := some 20) (v := ?_) (a' := ?_) #[true, true, true, false, true, true, true, true, false, true, true, true, false, false, false, false, false, false, false, false] rfl rfl (by kernel_rfl) (fun _ _ _ h => h) (Or.inl ⟨by rfl, ?_⟩) ?_ ?_
 rotate_left
 ·intro w'; go_simp; with_reducible rfl
 rotate_left
 ·simp only [Act.put, List.setIfInBounds_toArray, List.set_cons_zero, List.set_cons_succ, i64_w, i32_w]; rfl
 refine pure_ (i := 12) (N := some 21) (v := ?_) (a' := ?_) #[true, true, true, false, true, true, true, true, false, true, true, true, true, false, false, false, false, false, false, false] rfl rfl (by kernel_rfl) (fun _ _ _ h => h) (Or.inl ⟨by rfl, ?_⟩) ?_ ?_
 rotate_left
 ·intro w'; go_simp; with_reducible rfl
 rotate_left
 ·simp only [Act.put, List.setIfInBounds_toArray, List.set_cons_zero, List.set_cons_succ, i64_w, i32_w]; rfl
 refine take_ (i := 13) (N := some 22) (v := ?_) (a' := ?_) #[true, true, true, false, true, true, true, true, false, true, true, true, true, true, false, false, false, false, false, false] rfl rfl (by kernel_rfl) (fun _ _ _ h => h) (Or.inl ⟨by rfl, ?_⟩) hHeld ?_ ?_
 rotate_left
 ·rintro w' ⟨s0_, s1_, s2_, s3_, s4_, s5_, s6_⟩; go_simp; with_reducible rfl
 rotate_left
 ·simp only [Act.put, List.setIfInBounds_toArray, List.set_cons_zero, List.set_cons_succ, i64_w, i32_w]; rfl
 refine one_ (i := 3) (N := some 12) #[true, true, true, true, true, true, true, true, false, true, true, true, true, true, false, false, false, false, false, false] rfl rfl (by kernel_rfl) (by decide) (fun K hK => ?_)
 refine goes_ Try.func36 (by kernel_rfl) rfl #[.slice A T.length c, .slice At tab.length ct] (by rfl) rfl rfl (by (try simp only [List.map_toArray, List.map_cons, List.map_nil]); first | done | rfl) ?_
 with_reducible refine (HPO.out _ hHeld.2.2.2.2.2.2).mono ?_
 rintro e w2 ⟨rfl, hb⟩
 refine ⟨_, rfl, ?_⟩
 refine hK.out _ _ ⟨pw_cell_below hb hHeld.1, pw_cell_below hb hHeld.2.1, pw_cell_below hb hHeld.2.2.1, pw_cell_below hb hHeld.2.2.2.1, pw_cell_below hb hHeld.2.2.2.2.1, pw_cell_below hb hHeld.2.2.2.2.2.1, below_step hHeld.2.2.2.2.2.2 hb⟩ (fun hHeld => ?_)
 clear hK K
 refine norm_ (a' := ?_) ?_ ?_
 rotate_left
 ·show Act.put _ (some 12) _ = _; simp only [Act.put, List.setIfInBounds_toArray, List.set_cons_zero, List.set_cons_succ, i64_w, i32_w]; rfl
 refine one_ (i := 8) (N := some 17) #[true, true, true, true, true, true, true, true, true, true, true, true, true, true, false, false, false, false, false, false] rfl rfl (by kernel_rfl) (by decide) (fun K hK => ?_)
 refine goes_ Try.func38 (by kernel_rfl) rfl #[.int .i64 lam, .int .i64 x0] (by rfl) rfl rfl (by (try simp only [List.map_toArray, List.map_cons, List.map_nil]); first | done | rfl) ?_
 with_reducible refine (HPA.out _).mono ?_
 rintro e w2 ⟨rfl, hd⟩; have hb := hd.below; clear hd
 refine ⟨_, rfl, ?_⟩
 refine hK.out _ _ ⟨pw_cell_below hb hHeld.1, pw_cell_below hb hHeld.2.1, pw_cell_below hb hHeld.2.2.1, pw_cell_below hb hHeld.2.2.2.1, pw_cell_below hb hHeld.2.2.2.2.1, pw_cell_below hb hHeld.2.2.2.2.2.1, below_step hHeld.2.2.2.2.2.2 hb⟩ (fun hHeld => ?_)
 clear hK K
 refine norm_ (a' := ?_) ?_ ?_
 rotate_left
 ·show Act.put _ (some 17) _ = _; simp only [Act.put, List.setIfInBounds_toArray, List.set_cons_zero, List.set_cons_succ, i64_w, i32_w]; rfl
 refine one_ (i := 14) (N := some 23) #[true, true, true, true, true, true, true, true, true, true, true, true, true, true, true, false, false, false, false, false] rfl rfl (by kernel_rfl) (by decide) (fun K hK => ?_)
 refine goes_ Try.func38 (by kernel_rfl) rfl #[.int .i64 (wrap64 (1 + lam)), .int .i64 x5] (by rfl) rfl rfl (by (try simp only [List.map_toArray, List.map_cons, List.map_nil]); first | done | rfl) ?_
 with_reducible refine (HPB.out _).mono ?_
 rintro e w2 ⟨rfl, hd⟩; have hb := hd.below; clear hd
 refine ⟨_, rfl, ?_⟩
 refine hK.out _ _ ⟨pw_cell_below hb hHeld.1, pw_cell_below hb hHeld.2.1, pw_cell_below hb hHeld.2.2.1, pw_cell_below hb hHeld.2.2.2.1, pw_cell_below hb hHeld.2.2.2.2.1, pw_cell_below hb hHeld.2.2.2.2.2.1, below_step hHeld.2.2.2.2.2.2 hb⟩ (fun hHeld => ?_)
 clear hK K
 refine norm_ (a' := ?_) ?_ ?_
 rotate_left
 ·show Act.put _ (some 23) _ = _; simp only [Act.put, List.setIfInBounds_toArray, List.set_cons_zero, List.set_cons_succ, i64_w, i32_w]; rfl
 refine pure_ (i := 15) (N := some 24) (v := ?_) (a' := ?_) #[true, true, true, true, true, true, true, true, true, true, true, true, true, true, true, true, false, false, false, false] rfl rfl (by kernel_rfl) (fun _ _ _ h => h) (Or.inl ⟨by rfl, ?_⟩) ?_ ?_
 rotate_left
 ·intro w'; go_simp; with_reducible rfl
 rotate_left
 ·simp only [Act.put, List.setIfInBounds_toArray, List.set_cons_zero, List.set_cons_succ, i64_w, i32_w]; rfl
 refine pure_ (i := 16) (N := some 25) (v := ?_) (a' := ?_) #[true, true, true, true, true, true, true, true, true, true, true, true, true, true, true, true, true, false, false, false] rfl rfl (by kernel_rfl) (fun _ _ _ h => h) (Or.inl ⟨by rfl, ?_⟩) ?_ ?_
 rotate_left
 ·intro w'; go_simp; with_reducible rfl
 rotate_left
 ·simp only [Act.put, List.setIfInBounds_toArray, List.set_cons_zero, List.set_cons_succ, i64_w, i32_w]; rfl
 refine one_ (i := 17) (N := some 26) #[true, true, true, true, true, true, true, true, true, true, true, true, true, true, true, true, true, true, false, false] rfl rfl (by kernel_rfl) (by decide) (fun K hK => ?_)
 refine goes_ Try.func37 (by kernel_rfl) rfl #[.agg #[.int .i64 p0, .int .i64 p1], .agg #[.int .i64 (wrap64 (x * y)), .int .i64 1]] (by rfl) rfl rfl (by (try simp only [List.map_toArray, List.map_cons, List.map_nil]); first | done | rfl) ?_
 with_reducible refine (HTI.out _).mono ?_
 rintro e w2 ⟨rfl, hb⟩
 refine ⟨_, rfl, ?_⟩
 refine hK.out _ _ ⟨pw_cell_below hb hHeld.1, pw_cell_below hb hHeld.2.1, pw_cell_below hb hHeld.2.2.1, pw_cell_below hb hHeld.2.2.2.1, pw_cell_below hb hHeld.2.2.2.2.1, pw_cell_below hb hHeld.2.2.2.2.2.1, below_step hHeld.2.2.2.2.2.2 hb⟩ (fun hHeld => ?_)
 clear hK K
 refine norm_ (a' := ?_) ?_ ?_
 rotate_left
 ·show Act.put _ (some 26) _ = _; simp only [Act.put, List.setIfInBounds_toArray, List.set_cons_zero, List.set_cons_succ, i64_w, i32_w]; rfl
 refine one_ (i := 18) (N := some 27) #[true, true, true, true, true, true, true, true, true, true, true, true, true, true, true, true, true, true, true, false] rfl rfl (by kernel_rfl) (by decide) (fun K hK => ?_)
 refine goes_ Try.func35 (by kernel_rfl) rfl #[.agg #[.int .i64 s0, .int .i64 s1], .agg #[.int .i64 q0, .int .i64 q1]] (by rfl) rfl rfl (by (try simp only [List.map_toArray, List.map_cons, List.map_nil]); first | done | rfl) ?_
 with_reducible refine (HPL.out _).mono ?_
 rintro e w2 ⟨rfl, hb⟩
 refine ⟨_, rfl, ?_⟩
 refine hK.out _ _ ⟨pw_cell_below hb hHeld.1, pw_cell_below hb hHeld.2.1, pw_cell_below hb hHeld.2.2.1, pw_cell_below hb hHeld.2.2.2.1, pw_cell_below hb hHeld.2.2.2.2.1, pw_cell_below hb hHeld.2.2.2.2.2.1, below_step hHeld.2.2.2.2.2.2 hb⟩ (fun hHeld => ?_)
 clear hK K
 refine norm_ (a' := ?_) ?_ ?_
 rotate_left
 ·show Act.put _ (some 27) _ = _; simp only [Act.put, List.setIfInBounds_toArray, List.set_cons_zero, List.set_cons_succ, i64_w, i32_w]; rfl
 refine last_ (i := 19) (N := none) #[true, true, true, true, true, true, true, true, true, true, true, true, true, true, true, true, true, true, true, true] rfl rfl (by kernel_rfl) (by decide) (fun K hK => ?_)
 have hs0 := hHeld.1
 have hs1 := hHeld.2.1
 have hf0 := blk_frozen (blk_below HBO.out hHeld.2.2.2.2.2.2) 0
 have hf1 := blk_frozen (blk_below HBO.out hHeld.2.2.2.2.2.2) 1
 have HB9 := Aside0.mk hHeld.2.2.2.2.2.2
 refine skip_ (w1 := ?_) (by rfl) rfl ?_ ?_
 rotate_left
 ·go_simp; rfl
 refine hK.out _ _ ?_
 clear hK K
 refine done_ (by kernel_rfl) ?_
 go_wp2
 go_ret
 have HT := Aside0.mk (((Touch.of_below HB9.out (fun k => k < W0.heap.size)).set ⟨bo, 0, none⟩ (.inl hbo) (.int .i64 r0)).set ⟨bo, 1, none⟩ (.inl hbo) (.int .i64 r1))
 refine ⟨rfl, fun k => k < W0.heap.size, ⟨rfl, Nat.le_trans HSZ.out HT.out.size, fun k hk => ((Below.heap_setCell _ _ _ _ (by dsimp only; omega)).trans (Below.heap_setCell _ _ _ _ (by dsimp only; omega))).trans (HLOW.out _ HB9.out k hk), ?_⟩, HT.out, fun k h => .inl h⟩
 rw [← HER.out.1, ← HER.out.2]
 exact blk_put (blk_put (blk_below HBO.out HB9.out) 0 _ rfl) 1 _ rfl
/-- The run over all sign matrices. -/
theorem LambdaSum_run (l0 : List (List Int)) (A0 : Option Addr) (c0 : Nat) (a1 : Int) (k : Nat) (cs : Nat → Int × Int) (All : List (List (List Int))) (hES : EachSigns l0.length All)
  (hcs : ∀ (j : Nat) (T : List (List Int)), All[j]? = some T → stepL k l0 a1 T (cs j) = some (cs (j + 1))) (hcs0 : cs 0 = (0, 1)) (w W1 w2 : World) (hb2 : Below W1.heap.size W1 w2) (hsz : W1.heap.size = w.heap.size + 1 + 1 + 1)
  (hx : W1.heap[w.heap.size]? = some (.cells #[.slice A0 l0.length c0] 22 (0, 0))) (hy : W1.heap[w.heap.size + 1]? = some (.cells #[.int .i64 a1] 3 (0, 0)))
  (hF : Kd.F (Kd.slice 3 (Kd.int .i64)) W1 (fun k => k < W1.heap.size) A0 l0.length l0) (hc0 : l0.length ≤ c0) :
  Calls Try.prog 32 #[.int .i64 l0.length, .func (.func 33) #[] #[.pointer (some ⟨w2.heap.size, 0, none⟩), .pointer (some ⟨w.heap.size, 0, none⟩), .pointer (some ⟨w.heap.size + 1, 0, none⟩)]]
   (w2.alloc (.cells #[.int .i64 0, .int .i64 1] 25))
   (EsRet (LaSt (w2.alloc (.cells #[.int .i64 0, .int .i64 1] 25)) w2.heap.size w2.heap.size cs) All.length (w2.alloc (.cells #[.int .i64 0, .int .i64 1] 25)) (fun k => k < (w2.alloc (.cells #[.int .i64 0, .int .i64 1] 25)).heap.size)) := by
 obtain ⟨W0, hW0⟩ : ∃ W0, W0 = w2.alloc (.cells #[.int .i64 0, .int .i64 1] 25) := ⟨_, rfl⟩
 rw [← hW0]
 have hb0 : W0.heap[w2.heap.size]? = some (.cells #[.int .i64 0, .int .i64 1] 25 (0, 0)) := by rw [hW0]; exact blk_new w2 _
 have hlow : ∀ k, k < w2.heap.size → W0.heap[k]? = w2.heap[k]? := fun k hk => by rw [hW0]; exact (below_alloc (Below.refl w2.heap.size w2) _).block k hk
 have hs0 : W0.heap.size = w2.heap.size + 1 := by rw [hW0]; simp
 clear hW0
 have hsz2 := hb2.size
 have h1 : ∀ k, k < W1.heap.size → W0.heap[k]? = W1.heap[k]? := fun k hk => (hlow k (by omega)).trans (hb2.block k hk)
 refine hES 33 _ W0 (LaSt W0 w2.heap.size w2.heap.size cs) (LaSt.stays W0 _ _ cs (by omega) (by omega)) (enters_of Try.func33 (by kernel_rfl) rfl)
  (fun j T A c W ok hT hst hF2 hc => LambdaSum_1.calls W0 w2.heap.size w.heap.size (w.heap.size + 1) w2.heap.size cs l0 A0 c0 a1 k (by omega) (by omega) (Nat.le_refl _) (by omega) ((h1 _ (by omega)).trans hx) ((h1 _ (by omega)).trans hy) (Kd.F_mono (Kd.F_step hF (fun k hk _ => h1 k hk)) (fun k hk => Nat.lt_of_lt_of_le hk hsz2)) hc0 j T A c W ok (hcs j T hT) hst hF2 hc)
  (fun k => k < W0.heap.size) ⟨rfl, Nat.le_refl _, fun _ _ => rfl, by rw [hcs0]; exact hb0⟩
/-- What LambdaSum gives. -/
def impl_LambdaSum.f (k : Nat) (l0 : List (List Int)) (a1 : Int) : Option (Int × Int × Bool) := (P.impl_isCondensed.f l0 a1).bind fun b => if b = true then (if 1 ≤ l0.length ∧ l0.length ≤ 4 then (runL k l0 a1 (esX l0.length) (0, 1)).bind fun r => some (r.1, r.2, true) else none) else some (0, 0, false)
set_option maxHeartbeats 8000000 in
theorem impl_LambdaSum.calls (k : Nat) (A0 : Option Addr) (c0 : Nat) (l0 : List (List Int)) (a1 : Int) (r1 : Int) (r2 : Int) (r3 : Bool) (w : World) (hr0 : Kd.C (Kd.slice 3 (Kd.int .i64)) w A0 l0.length l0) (hc0 : l0.length ≤ c0) (h : impl_LambdaSum.f k l0 a1 = some (r1, r2, r3)) :
  Calls Try.prog 9 #[.slice A0 l0.length c0, .int .i64 a1] w fun e w' => e = .returned (.tuple #[.agg #[.int .i64 r1, .int .i64 r2], .bool r3]) ∧ Below w.heap.size w w' := by
 unfold impl_LambdaSum.f at h
 obtain ⟨b, hb, h⟩ := Option.bind_eq_some_iff.1 h
 obtain ⟨W1, hW1⟩ : ∃ W1, W1 = ((w.alloc (.cells #[.slice A0 l0.length c0] 22)).alloc (.cells #[.int .i64 a1] 3)).alloc (.cells #[.int .i64 0, .int .i64 0] 25) := ⟨_, rfl⟩
 have hb1 : Below w.heap.size w W1 := by rw [hW1]; exact below_alloc (below_alloc (below_alloc (Below.refl _ _) _) _) _
 have hsz : W1.heap.size = w.heap.size + 1 + 1 + 1 := by rw [hW1]; simp
 have hx : W1.heap[w.heap.size]? = some (.cells #[.slice A0 l0.length c0] 22 (0, 0)) := by rw [hW1]; exact blk_alloc (blk_alloc (blk_new_at rfl) _) _
 have hy : W1.heap[w.heap.size + 1]? = some (.cells #[.int .i64 a1] 3 (0, 0)) := by rw [hW1]; exact blk_alloc (blk_new_at (by simp)) _
 have hz : W1.heap[w.heap.size + 1 + 1]? = some (.cells #[.int .i64 0, .int .i64 0] 25 (0, 0)) := by rw [hW1]; exact blk_new_at (by simp)
 have hF : Kd.F (Kd.slice 3 (Kd.int .i64)) W1 (fun k => k < W1.heap.size) A0 l0.length l0 := Kd.C_F (Kd.heap_slice _ (Kd.heap_int .i64)) (Kd.C_below hr0 (hb1.mono (Nat.le_refl _)))
 have HA := Aside0.mk (fun W (hC : Kd.C (Kd.slice 3 (Kd.int .i64)) W A0 l0.length l0) => P.impl_isCondensed.calls A0 c0 l0 a1 b W hC hc0 hb)
 have HW1 := Aside0.mk hW1
 have HB1 := Aside0.mk hb1
 have HF := Aside0.mk hF
 have HX := Aside0.mk hx
 have HY := Aside0.mk hy
 have HZ := Aside0.mk hz
 have HSZ := Aside0.mk hsz
 have hu25 := Try.underlying25
 have hk1 : W1.cell? ⟨w.heap.size, 0, none⟩ = some (.slice A0 l0.length c0) := blk_cell hx 0
 have hk2 : W1.cell? ⟨w.heap.size + 1, 0, none⟩ = some (.int .i64 a1) := blk_cell hy 0
 cases b with
 | false =>
  rw [if_neg (by simp)] at h
  simp only [Option.some.injEq, Prod.mk.injEq] at h
  obtain ⟨rfl, rfl, rfl⟩ := h
  clear hF hr0 hx hy hz h hb hW1 hsz hb1
  go_enter Try.func9, Try.ntmps9
  go_wp2_with (go_at_call 31; rw [← HW1.out]; refine (HA.out _ (Kd.F_now HF.out)).mono ?_; rintro e w2 ⟨rfl, hd⟩; have hz0 := pw_cell_below hd (blk_cell HZ.out 0); have hz1 := pw_cell_below hd (blk_cell HZ.out 1); have hf0 := blk_frozen (blk_below HZ.out hd) 0; have hf1 := blk_frozen (blk_below HZ.out hd) 1; have HB2 := Aside0.mk hd; clear hd)
  refine bodyPost_ret (results_ct rfl _ _ (w.heap.size + 1 + 1) 25 #[.int .i64 0, .int .i64 0] (0, 0) _ rfl ?blk Try.underlying25 rfl (by kernel_rfl)) rfl ?_
  case blk => exact blk_put (blk_put (blk_below HZ.out HB2.out) 0 _ rfl) 1 _ rfl
  exact ⟨rfl, below_set (below_set (below_step HB1.out HB2.out) (by omega)) (by omega)⟩
 | true =>
  rw [if_pos rfl] at h
  split at h
  case isFalse => cases h
  rename_i hn
  obtain ⟨⟨y1, y2⟩, hr, h⟩ := Option.bind_eq_some_iff.1 h
  simp only [Option.some.injEq, Prod.mk.injEq] at h
  obtain ⟨rfl, rfl, rfl⟩ := h
  obtain ⟨hcs, hfin⟩ := csL_run k l0 a1 _ _ _ hr
  obtain ⟨cs, hcsd⟩ : ∃ cs, cs = csL k l0 a1 (esX l0.length) (0, 1) := ⟨_, rfl⟩
  rw [← hcsd] at hcs hfin
  have hcs0 : cs 0 = (0, 1) := by rw [hcsd]; cases esX l0.length <;> rfl
  have hES := eachSigns_all hn.1 hn.2
  have HES := Aside0.mk (fun (w2 : World) (hb2 : Below W1.heap.size W1 w2) => LambdaSum_run l0 A0 c0 a1 k cs (esX l0.length) hES hcs hcs0 w W1 w2 hb2 hsz hx hy hF hc0)
  clear hF hr0 hx hy hz hb hW1 hsz hb1 hcs hcsd hcs0 hES hr
  go_enter Try.func9, Try.ntmps9
  go_wp2_with (first
   | (go_at_call 31; rw [← HW1.out]; refine (HA.out _ (Kd.F_now HF.out)).mono ?_; rintro e w2 ⟨rfl, hd⟩; have hq1 := pw_cell_below hd hk1; have hq2 := pw_cell_below (below_alloc (Below.refl w2.heap.size w2) (.cells #[.int .i64 0, .int .i64 1] 25)) hq1; have hz0 := pw_cell_below hd (blk_cell HZ.out 0); have hz1 := pw_cell_below hd (blk_cell HZ.out 1); have hf0 := blk_frozen (blk_below HZ.out hd) 0; have hf1 := blk_frozen (blk_below HZ.out hd) 1; have HB2 := Aside0.mk hd; clear hd)
   | (go_at_call 32; go_loud (refine (HES.out _ HB2.out).mono ?_); rintro e w5 ⟨rfl, ok5, ⟨rfl, hs5, hl5, hc5⟩, ht5, ho5⟩; rw [hfin] at hc5; have hx5 := blk_cell hc5 0; have hx6 := blk_cell hc5 1; have hz5 := (hl5 (w.heap.size + 1 + 1) (by have := HB2.out.size; have := HSZ.out; omega)).trans (((below_alloc (Below.refl w2.heap.size w2) (.cells #[.int .i64 0, .int .i64 1] 25)).block _ (by have := HB2.out.size; have := HSZ.out; omega)).trans (blk_below HZ.out HB2.out)); have HZ5 := Aside0.mk hz5; have hz50 := blk_cell hz5 0; have hz51 := blk_cell hz5 1; have hf50 := blk_frozen hz5 0; have hf51 := blk_frozen hz5 1; have HS5 := Aside0.mk hs5; have HL5 := Aside0.mk hl5; have HT5 := Aside0.mk ht5; clear hs5 hl5 ht5 ho5 hc5 hz5))
  refine bodyPost_ret (results_ct rfl _ _ (w.heap.size + 1 + 1) 25 #[.int .i64 y1, .int .i64 y2] (0, 0) _ rfl ?blk Try.underlying25 rfl (by kernel_rfl)) rfl ?_
  case blk => exact blk_put (blk_put HZ5.out 0 _ rfl) 1 _ rfl
  have HBW := Aside0.mk (show Below w.heap.size w w5 from by
   have hb2 := below_step HB1.out HB2.out
   have hb3 := below_alloc hb2 (.cells #[.int .i64 0, .int .i64 1] 25)
   exact ⟨HT5.out.os.trans hb3.os, HT5.out.tape.trans hb3.tape, HT5.out.output.trans hb3.output, Nat.le_trans hb3.size HT5.out.size, fun k hk => (HL5.out k (by have := hb2.size; omega)).trans (hb3.block k hk)⟩)
  exact ⟨rfl, below_set (below_set HBW.out (by omega)) (by omega)⟩
end Go.Proofs.Ytkiloimggmpggaa
