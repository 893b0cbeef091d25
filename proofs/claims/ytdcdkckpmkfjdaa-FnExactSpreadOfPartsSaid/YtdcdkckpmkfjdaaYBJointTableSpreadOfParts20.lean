/- Texts of one chain, in build order. -/
import Derived.Test.YtdcdkckpmkfjdaaYBJointTableSpreadOfParts19
import Derived.Test.YtdcdkckpmkfjdaaWMore
namespace Go.Proofs.Ytdcdkckpmkfjdaa.L
open Go.RowKit Go.Proofs.Ytdcdkckpmkfjdaa Go.Proofs.Ytdcdkckpmkfjdaa.P Go.Proofs.YtdcdkckpmkfjdaaW.PrintWords Go.Proofs.YtdcdkckpmkfjdaaW.PrintLast Go.Proofs.YtdcdkckpmkfjdaaW.PrintMore
set_option linter.unusedVariables false
set_option linter.unusedSimpArgs false
set_option maxRecDepth 100000

/-- The table behind j sign matrices. -/
def jtOf (iv mv : List (List Int) → Int) : List (List (List Int)) → List (List Int) → Nat → List (List Int)
  | _, t, 0 => t
  | [], t, _ + 1 => t
  | T :: L, t, j + 1 => jtOf iv mv L (cntT t (iv T).toNat (mv T).toNat) j
def jtOk (iv mv : List (List Int) → Int) : List (List (List Int)) → List (List Int) → Bool
  | [], _ => true
  | T :: L, t => (decide (0 ≤ iv T ∧ 0 ≤ mv T ∧ (iv T).toNat < t.length ∧ (mv T).toNat < (t.getD (iv T).toNat []).length)) && jtOk iv mv L (cntT t (iv T).toNat (mv T).toNat)
theorem jtOk_step (iv mv : List (List Int) → Int) : ∀ (L : List (List (List Int))) (t : List (List Int)), jtOk iv mv L t = true → ∀ (j : Nat) (T : List (List Int)), L[j]? = some T →
    ∃ p q : Nat, iv T = p ∧ mv T = q ∧ p < (jtOf iv mv L t j).length ∧ q < ((jtOf iv mv L t j).getD p []).length ∧ jtOf iv mv L t (j + 1) = cntT (jtOf iv mv L t j) p q
  | [], t, h, j, T, hT => by simp at hT
  | T0 :: L, t, h, j, T, hT => by
    rw [jtOk, Bool.and_eq_true, decide_eq_true_eq] at h
    cases j with
    | zero =>
      simp only [List.getElem?_cons_zero, Option.some.injEq] at hT
      subst hT
      refine ⟨(iv T0).toNat, (mv T0).toNat, by omega, by omega, h.1.2.2.1, h.1.2.2.2, ?_⟩
      cases L <;> simp [jtOf]
    | succ j =>
      have := jtOk_step iv mv L _ h.2 j T (by simpa using hT)
      simp only [jtOf]
      exact this
def zeroT (rows cols : Nat) : List (List Int) := tableL (fun _ _ => 0) rows cols
theorem JointTable_1.gives (i j : Nat) (W : World) : Gives Try.prog 81 #[.int .i64 i, .int .i64 j] W (.int .i64 0) := by
  unfold Gives
  go_enter Try.func81, Try.ntmps81
  go_wp2
  go_ret
  exact ⟨rfl, Below.refl _ _⟩
theorem table_zero (rows cols : Nat) (hr : rows ≤ 1000) (hc : cols ≤ 1000) (w : World) : Calls Try.prog 80 #[.int .i64 rows, .int .i64 cols, .func (.func 81) #[] #[]] w fun e w' => ∃ v0_ : Value, e = .returned (v0_) ∧ Kd.S (Kd.slice 3 (Kd.int .i64)) 22 w' w.heap.size (fun _ => True) v0_ (zeroT rows cols) ∧ Below w.heap.size w w' :=
  impl_tableC.calls 81 #[] (fun _ _ => 0) rows cols w (by omega) (by omega) (enters_of Try.func81 (by kernel_rfl) rfl) (fun i j W _ _ _ => JointTable_1.gives i j W)
def jtN (n rows cols : Nat) : List (List Int) := jtOf inV moV (esX n) (zeroT rows cols) (esX n).length
def jtP (n rows : Nat) : Bool := ((esX n).all fun T => (impl_inversions.f 100 T).isSome && (impl_minusOnes.f 100 T).isSome) && jtOk inV moV (esX n) (zeroT rows (mtA n).length) && decide ((mtA n).length ≤ 1000)
/-- What eachSigns does to the table. -/
theorem jt_each (n rows : Nat) (hES : EachSigns n (esX n)) (hP : jtP n rows = true) (B : Nat) (W0 : World) (bo g m c : Nat) (hB : B ≤ bo) (hbo : bo < W0.heap.size) (hcell : W0.heap[bo]? = some (.cells #[.slice (some ⟨g, 0, none⟩) m c] 36 (0, 0)))
    (hS : Kd.S (Kd.slice 3 (Kd.int .i64)) 22 W0 B (fun k => k ≠ bo ∧ k < W0.heap.size) (.slice (some ⟨g, 0, none⟩) m c) (zeroT rows (mtA n).length)) :
    Calls Try.prog 82 #[.int .i64 n, .func (.func 83) #[] #[.pointer (some ⟨bo, 0, none⟩)]] W0 (EsRet (JtSt W0 B bo (jtOf inV moV (esX n) (zeroT rows (mtA n).length))) (esX n).length W0 (fun k => k < W0.heap.size)) := by
  unfold jtP at hP
  simp only [Bool.and_eq_true] at hP
  obtain ⟨⟨h1, h2⟩, _⟩ := hP
  have hv : ∀ T ∈ esX n, impl_inversions.f 100 T = some (inV T) ∧ impl_minusOnes.f 100 T = some (moV T) := fun T hT => by
    have := List.all_eq_true.1 h1 T hT
    rw [Bool.and_eq_true] at this
    obtain ⟨a, ha⟩ := Option.isSome_iff_exists.1 this.1
    obtain ⟨b, hb⟩ := Option.isSome_iff_exists.1 this.2
    unfold inV moV
    rw [ha, hb]
    exact ⟨rfl, rfl⟩
  refine hES 83 #[.pointer (some ⟨bo, 0, none⟩)] W0 _ (JtSt.stays W0 B bo _ hB hbo) (enters_of Try.func83 (by kernel_rfl) rfl) ?_ (fun k => k < W0.heap.size) ⟨g, m, c, rfl, Nat.le_refl _, fun k _ => rfl, hcell, by cases hq : esX n <;> exact hS⟩
  intro j T A c W ok hT hst hF hc
  exact JointTable_2.calls W0 B bo _ (esX n) inV moV hB hbo
    (fun T A c W hT hC hc => (impl_inversions.calls 100 A c T (inV T) W hC hc (hv T hT).1).mono fun e w' h => ⟨h.1, h.2.below⟩)
    (fun T A c W hT hC hc => (impl_minusOnes.calls 100 A c T (moV T) W hC hc (hv T hT).2).mono fun e w' h => ⟨h.1, h.2.below⟩)
    (jtOk_step inV moV (esX n) _ h2) j T A c W ok hT hst hF hc
theorem jtP_1 : jtP 1 1 = true := by decide +kernel
set_option maxHeartbeats 4000000 in
theorem impl_JointTable.calls_1 (w : World) : Calls Try.prog 32 #[.int .i64 1] w (RetTT w (jtN 1 1 (mtA 1).length) true) := by
  have HM := Aside0.mk (fun W => show Calls Try.prog 18 #[.int .i64 1] W (RetTR W (mtA 1) true) from impl_MinusTable_calls 1 W)
  have hl : (mtA 1).length ≤ 1000 := by have h := jtP_1; unfold jtP at h; rw [Bool.and_eq_true, decide_eq_true_eq] at h; exact h.2
  obtain ⟨L, hL⟩ : ∃ L, L = (mtA 1).length := ⟨_, rfl⟩
  have HT := Aside0.mk (fun W => show Calls Try.prog 80 #[.int .i64 1, .int .i64 L, .func (.func 81) #[] #[]] W _ from table_zero 1 L (by omega) (by omega) W)
  have HE := Aside0.mk (fun B W0 bo g m c h1 h2 h3 h4 => show Calls Try.prog 82 #[.int .i64 1, .func (.func 83) #[] #[.pointer (some ⟨bo, 0, none⟩)]] W0 _ from jt_each 1 1 (eachSigns_all (by omega) (by omega)) jtP_1 B W0 bo g m c h1 h2 h3 h4)
  rw [show ((mtA ((1 : Nat) : Int)).length) = L from hL.symm] at HE
  have HLL := Aside0.mk hL
  obtain ⟨r, hr⟩ : ∃ r, r = mtA 1 := ⟨_, rfl⟩
  rw [← hr] at HM
  have hrl : r.length = L := by rw [hr, hL]
  have HRL := Aside0.mk hrl
  clear hl hr hrl hL
  go_enter Try.func32, Try.ntmps32
  go_wp2_with (first
    | (go_at_call 18; refine (HM.out _).mono ?_; rintro e w1 ⟨v, rfl, hR, hb⟩; obtain ⟨A1, c1, rfl⟩ := Kd.R_slice hR; have HB := Aside0.mk hb; rw [HRL.out]; clear hR hb)
    | (go_at_call 80; refine (HT.out _).mono ?_; rintro e w2 ⟨v, rfl, hS, hb⟩; obtain ⟨g2, c2, rfl, _, hg2, _⟩ := Kd.R_form (Kd.S_R hS) (by simp [zeroT, tableL]); have HS := Aside0.mk (Kd.S_lower (Kd.S_bound hS) HB.out.size); have HB2 := Aside0.mk (below_step HB.out hb); clear hS hb hg2)
    | (go_at_call 82
       have hsz : (w2.alloc (.cells #[.slice (some ⟨g2, 0, none⟩) (zeroT 1 L).length c2] 36)).heap.size = w2.heap.size + 1 := by simp
       have hS0 := Kd.S_mono (ok' := fun k => k ≠ w2.heap.size ∧ k < (w2.alloc (.cells #[.slice (some ⟨g2, 0, none⟩) (zeroT 1 L).length c2] 36)).heap.size) (Kd.S_below HS.out (below_alloc (Below.refl _ _) (.cells #[.slice (some ⟨g2, 0, none⟩) (zeroT 1 L).length c2] 36))) (fun k hk => by have := hk.2.2.1; exact ⟨by omega, by omega⟩)
       refine (HE.out w.heap.size _ w2.heap.size g2 _ c2 HB2.out.size (by omega) (blk_new_at rfl) hS0).mono ?_
       rintro e w5 ⟨rfl, ok5, ⟨g5, n5, c5, rfl, hs5, hl5, hc5, hS5⟩, ht5, ho5⟩
       have hx5 : w5.cell? ⟨w2.heap.size, 0, none⟩ = some (.slice (some ⟨g5, 0, none⟩) n5 c5) := blk_cell hc5 0
       have HB0 := Aside0.mk (below_alloc HB2.out (.cells #[.slice (some ⟨g2, 0, none⟩) (zeroT 1 L).length c2] 36))
       have HS5 := Aside0.mk hS5
       have HL5 := Aside0.mk hl5
       have HT5 := Aside0.mk ht5
       clear hs5 hl5 ht5 ho5 hc5 hS5 hS0))
  go_ret2
  refine ⟨_, rfl, ?_, HT5.out.os.trans HB0.out.os, HT5.out.tape.trans HB0.out.tape, HT5.out.output.trans HB0.out.output, Nat.le_trans HB0.out.size HT5.out.size, fun k hk => (HL5.out k hk).trans (HB0.out.block k hk)⟩
  have h5 := Kd.S_mono HS5.out (ok' := fun _ => True) (fun _ _ => trivial)
  unfold jtN
  rw [← HLL.out]
  exact h5
theorem jtP_2 : jtP 2 2 = true := by decide +kernel
set_option maxHeartbeats 4000000 in
theorem impl_JointTable.calls_2 (w : World) : Calls Try.prog 32 #[.int .i64 2] w (RetTT w (jtN 2 2 (mtA 2).length) true) := by
  have HM := Aside0.mk (fun W => show Calls Try.prog 18 #[.int .i64 2] W (RetTR W (mtA 2) true) from impl_MinusTable_calls 2 W)
  have hl : (mtA 2).length ≤ 1000 := by have h := jtP_2; unfold jtP at h; rw [Bool.and_eq_true, decide_eq_true_eq] at h; exact h.2
  obtain ⟨L, hL⟩ : ∃ L, L = (mtA 2).length := ⟨_, rfl⟩
  have HT := Aside0.mk (fun W => show Calls Try.prog 80 #[.int .i64 2, .int .i64 L, .func (.func 81) #[] #[]] W _ from table_zero 2 L (by omega) (by omega) W)
  have HE := Aside0.mk (fun B W0 bo g m c h1 h2 h3 h4 => show Calls Try.prog 82 #[.int .i64 2, .func (.func 83) #[] #[.pointer (some ⟨bo, 0, none⟩)]] W0 _ from jt_each 2 2 (eachSigns_all (by omega) (by omega)) jtP_2 B W0 bo g m c h1 h2 h3 h4)
  rw [show ((mtA ((2 : Nat) : Int)).length) = L from hL.symm] at HE
  have HLL := Aside0.mk hL
  obtain ⟨r, hr⟩ : ∃ r, r = mtA 2 := ⟨_, rfl⟩
  rw [← hr] at HM
  have hrl : r.length = L := by rw [hr, hL]
  have HRL := Aside0.mk hrl
  clear hl hr hrl hL
  go_enter Try.func32, Try.ntmps32
  go_wp2_with (first
    | (go_at_call 18; refine (HM.out _).mono ?_; rintro e w1 ⟨v, rfl, hR, hb⟩; obtain ⟨A1, c1, rfl⟩ := Kd.R_slice hR; have HB := Aside0.mk hb; rw [HRL.out]; clear hR hb)
    | (go_at_call 80; refine (HT.out _).mono ?_; rintro e w2 ⟨v, rfl, hS, hb⟩; obtain ⟨g2, c2, rfl, _, hg2, _⟩ := Kd.R_form (Kd.S_R hS) (by simp [zeroT, tableL]); have HS := Aside0.mk (Kd.S_lower (Kd.S_bound hS) HB.out.size); have HB2 := Aside0.mk (below_step HB.out hb); clear hS hb hg2)
    | (go_at_call 82
       have hsz : (w2.alloc (.cells #[.slice (some ⟨g2, 0, none⟩) (zeroT 2 L).length c2] 36)).heap.size = w2.heap.size + 1 := by simp
       have hS0 := Kd.S_mono (ok' := fun k => k ≠ w2.heap.size ∧ k < (w2.alloc (.cells #[.slice (some ⟨g2, 0, none⟩) (zeroT 2 L).length c2] 36)).heap.size) (Kd.S_below HS.out (below_alloc (Below.refl _ _) (.cells #[.slice (some ⟨g2, 0, none⟩) (zeroT 2 L).length c2] 36))) (fun k hk => by have := hk.2.2.1; exact ⟨by omega, by omega⟩)
       refine (HE.out w.heap.size _ w2.heap.size g2 _ c2 HB2.out.size (by omega) (blk_new_at rfl) hS0).mono ?_
       rintro e w5 ⟨rfl, ok5, ⟨g5, n5, c5, rfl, hs5, hl5, hc5, hS5⟩, ht5, ho5⟩
       have hx5 : w5.cell? ⟨w2.heap.size, 0, none⟩ = some (.slice (some ⟨g5, 0, none⟩) n5 c5) := blk_cell hc5 0
       have HB0 := Aside0.mk (below_alloc HB2.out (.cells #[.slice (some ⟨g2, 0, none⟩) (zeroT 2 L).length c2] 36))
       have HS5 := Aside0.mk hS5
       have HL5 := Aside0.mk hl5
       have HT5 := Aside0.mk ht5
       clear hs5 hl5 ht5 ho5 hc5 hS5 hS0))
  go_ret2
  refine ⟨_, rfl, ?_, HT5.out.os.trans HB0.out.os, HT5.out.tape.trans HB0.out.tape, HT5.out.output.trans HB0.out.output, Nat.le_trans HB0.out.size HT5.out.size, fun k hk => (HL5.out k hk).trans (HB0.out.block k hk)⟩
  have h5 := Kd.S_mono HS5.out (ok' := fun _ => True) (fun _ _ => trivial)
  unfold jtN
  rw [← HLL.out]
  exact h5
theorem jtP_3 : jtP 3 4 = true := by decide +kernel
set_option maxHeartbeats 4000000 in
theorem impl_JointTable.calls_3 (w : World) : Calls Try.prog 32 #[.int .i64 3] w (RetTT w (jtN 3 4 (mtA 3).length) true) := by
  have HM := Aside0.mk (fun W => show Calls Try.prog 18 #[.int .i64 3] W (RetTR W (mtA 3) true) from impl_MinusTable_calls 3 W)
  have hl : (mtA 3).length ≤ 1000 := by have h := jtP_3; unfold jtP at h; rw [Bool.and_eq_true, decide_eq_true_eq] at h; exact h.2
  obtain ⟨L, hL⟩ : ∃ L, L = (mtA 3).length := ⟨_, rfl⟩
  have HT := Aside0.mk (fun W => show Calls Try.prog 80 #[.int .i64 4, .int .i64 L, .func (.func 81) #[] #[]] W _ from table_zero 4 L (by omega) (by omega) W)
  have HE := Aside0.mk (fun B W0 bo g m c h1 h2 h3 h4 => show Calls Try.prog 82 #[.int .i64 3, .func (.func 83) #[] #[.pointer (some ⟨bo, 0, none⟩)]] W0 _ from jt_each 3 4 (eachSigns_all (by omega) (by omega)) jtP_3 B W0 bo g m c h1 h2 h3 h4)
  rw [show ((mtA ((3 : Nat) : Int)).length) = L from hL.symm] at HE
  have HLL := Aside0.mk hL
  obtain ⟨r, hr⟩ : ∃ r, r = mtA 3 := ⟨_, rfl⟩
  rw [← hr] at HM
  have hrl : r.length = L := by rw [hr, hL]
  have HRL := Aside0.mk hrl
  clear hl hr hrl hL
  go_enter Try.func32, Try.ntmps32
  go_wp2_with (first
    | (go_at_call 18; refine (HM.out _).mono ?_; rintro e w1 ⟨v, rfl, hR, hb⟩; obtain ⟨A1, c1, rfl⟩ := Kd.R_slice hR; have HB := Aside0.mk hb; rw [HRL.out]; clear hR hb)
    | (go_at_call 80; refine (HT.out _).mono ?_; rintro e w2 ⟨v, rfl, hS, hb⟩; obtain ⟨g2, c2, rfl, _, hg2, _⟩ := Kd.R_form (Kd.S_R hS) (by simp [zeroT, tableL]); have HS := Aside0.mk (Kd.S_lower (Kd.S_bound hS) HB.out.size); have HB2 := Aside0.mk (below_step HB.out hb); clear hS hb hg2)
    | (go_at_call 82
       have hsz : (w2.alloc (.cells #[.slice (some ⟨g2, 0, none⟩) (zeroT 4 L).length c2] 36)).heap.size = w2.heap.size + 1 := by simp
       have hS0 := Kd.S_mono (ok' := fun k => k ≠ w2.heap.size ∧ k < (w2.alloc (.cells #[.slice (some ⟨g2, 0, none⟩) (zeroT 4 L).length c2] 36)).heap.size) (Kd.S_below HS.out (below_alloc (Below.refl _ _) (.cells #[.slice (some ⟨g2, 0, none⟩) (zeroT 4 L).length c2] 36))) (fun k hk => by have := hk.2.2.1; exact ⟨by omega, by omega⟩)
       refine (HE.out w.heap.size _ w2.heap.size g2 _ c2 HB2.out.size (by omega) (blk_new_at rfl) hS0).mono ?_
       rintro e w5 ⟨rfl, ok5, ⟨g5, n5, c5, rfl, hs5, hl5, hc5, hS5⟩, ht5, ho5⟩
       have hx5 : w5.cell? ⟨w2.heap.size, 0, none⟩ = some (.slice (some ⟨g5, 0, none⟩) n5 c5) := blk_cell hc5 0
       have HB0 := Aside0.mk (below_alloc HB2.out (.cells #[.slice (some ⟨g2, 0, none⟩) (zeroT 4 L).length c2] 36))
       have HS5 := Aside0.mk hS5
       have HL5 := Aside0.mk hl5
       have HT5 := Aside0.mk ht5
       clear hs5 hl5 ht5 ho5 hc5 hS5 hS0))
  go_ret2
  refine ⟨_, rfl, ?_, HT5.out.os.trans HB0.out.os, HT5.out.tape.trans HB0.out.tape, HT5.out.output.trans HB0.out.output, Nat.le_trans HB0.out.size HT5.out.size, fun k hk => (HL5.out k hk).trans (HB0.out.block k hk)⟩
  have h5 := Kd.S_mono HS5.out (ok' := fun _ => True) (fun _ _ => trivial)
  unfold jtN
  rw [← HLL.out]
  exact h5
theorem jtP_4 : jtP 4 7 = true := by decide +kernel
set_option maxHeartbeats 4000000 in
theorem impl_JointTable.calls_4 (w : World) : Calls Try.prog 32 #[.int .i64 4] w (RetTT w (jtN 4 7 (mtA 4).length) true) := by
  have HM := Aside0.mk (fun W => show Calls Try.prog 18 #[.int .i64 4] W (RetTR W (mtA 4) true) from impl_MinusTable_calls 4 W)
  have hl : (mtA 4).length ≤ 1000 := by have h := jtP_4; unfold jtP at h; rw [Bool.and_eq_true, decide_eq_true_eq] at h; exact h.2
  obtain ⟨L, hL⟩ : ∃ L, L = (mtA 4).length := ⟨_, rfl⟩
  have HT := Aside0.mk (fun W => show Calls Try.prog 80 #[.int .i64 7, .int .i64 L, .func (.func 81) #[] #[]] W _ from table_zero 7 L (by omega) (by omega) W)
  have HE := Aside0.mk (fun B W0 bo g m c h1 h2 h3 h4 => show Calls Try.prog 82 #[.int .i64 4, .func (.func 83) #[] #[.pointer (some ⟨bo, 0, none⟩)]] W0 _ from jt_each 4 7 (eachSigns_all (by omega) (by omega)) jtP_4 B W0 bo g m c h1 h2 h3 h4)
  rw [show ((mtA ((4 : Nat) : Int)).length) = L from hL.symm] at HE
  have HLL := Aside0.mk hL
  obtain ⟨r, hr⟩ : ∃ r, r = mtA 4 := ⟨_, rfl⟩
  rw [← hr] at HM
  have hrl : r.length = L := by rw [hr, hL]
  have HRL := Aside0.mk hrl
  clear hl hr hrl hL
  go_enter Try.func32, Try.ntmps32
  go_wp2_with (first
    | (go_at_call 18; refine (HM.out _).mono ?_; rintro e w1 ⟨v, rfl, hR, hb⟩; obtain ⟨A1, c1, rfl⟩ := Kd.R_slice hR; have HB := Aside0.mk hb; rw [HRL.out]; clear hR hb)
    | (go_at_call 80; refine (HT.out _).mono ?_; rintro e w2 ⟨v, rfl, hS, hb⟩; obtain ⟨g2, c2, rfl, _, hg2, _⟩ := Kd.R_form (Kd.S_R hS) (by simp [zeroT, tableL]); have HS := Aside0.mk (Kd.S_lower (Kd.S_bound hS) HB.out.size); have HB2 := Aside0.mk (below_step HB.out hb); clear hS hb hg2)
    | (go_at_call 82
       have hsz : (w2.alloc (.cells #[.slice (some ⟨g2, 0, none⟩) (zeroT 7 L).length c2] 36)).heap.size = w2.heap.size + 1 := by simp
       have hS0 := Kd.S_mono (ok' := fun k => k ≠ w2.heap.size ∧ k < (w2.alloc (.cells #[.slice (some ⟨g2, 0, none⟩) (zeroT 7 L).length c2] 36)).heap.size) (Kd.S_below HS.out (below_alloc (Below.refl _ _) (.cells #[.slice (some ⟨g2, 0, none⟩) (zeroT 7 L).length c2] 36))) (fun k hk => by have := hk.2.2.1; exact ⟨by omega, by omega⟩)
       refine (HE.out w.heap.size _ w2.heap.size g2 _ c2 HB2.out.size (by omega) (blk_new_at rfl) hS0).mono ?_
       rintro e w5 ⟨rfl, ok5, ⟨g5, n5, c5, rfl, hs5, hl5, hc5, hS5⟩, ht5, ho5⟩
       have hx5 : w5.cell? ⟨w2.heap.size, 0, none⟩ = some (.slice (some ⟨g5, 0, none⟩) n5 c5) := blk_cell hc5 0
       have HB0 := Aside0.mk (below_alloc HB2.out (.cells #[.slice (some ⟨g2, 0, none⟩) (zeroT 7 L).length c2] 36))
       have HS5 := Aside0.mk hS5
       have HL5 := Aside0.mk hl5
       have HT5 := Aside0.mk ht5
       clear hs5 hl5 ht5 ho5 hc5 hS5 hS0))
  go_ret2
  refine ⟨_, rfl, ?_, HT5.out.os.trans HB0.out.os, HT5.out.tape.trans HB0.out.tape, HT5.out.output.trans HB0.out.output, Nat.le_trans HB0.out.size HT5.out.size, fun k hk => (HL5.out k hk).trans (HB0.out.block k hk)⟩
  have h5 := Kd.S_mono HS5.out (ok' := fun _ => True) (fun _ _ => trivial)
  unfold jtN
  rw [← HLL.out]
  exact h5
def jtA (n : Int) : List (List Int) := if inB n 1 4 = true then jtN n.toNat (n.toNat * (n.toNat - 1) / 2 + 1) (mtA n).length else []
theorem jtA_out {n : Int} (h : inB n 1 4 = false) : jtA n = [] := by unfold jtA; rw [h]; rfl
set_option maxHeartbeats 2000000 in
theorem impl_JointTable_calls (n : Int) (w : World) : Calls Try.prog 32 #[.int .i64 n] w (RetTT w (jtA n) (inB n 1 4)) := by
  cases hi : inB n 1 4 with
  | false =>
    have HM := Aside0.mk (fun W => impl_MinusTable_calls n W)
    rw [hi, mtA_out hi] at HM
    rw [jtA_out hi]
    clear hi
    go_enter Try.func32, Try.ntmps32
    go_wp2_with (go_at_call 18; refine (HM.out _).mono ?_; rintro e w1 ⟨v, rfl, hR, hb⟩; have HB := Aside0.mk hb; clear hR hb)
    go_ret2
    exact ⟨_, rfl, Kd.S_nil _ _ _ _ _, HB.out⟩
  | true =>
    rcases one_four hi with rfl | rfl | rfl | rfl
    · exact impl_JointTable.calls_1 w
    · exact impl_JointTable.calls_2 w
    · exact impl_JointTable.calls_3 w
    · exact impl_JointTable.calls_4 w
end Go.Proofs.Ytdcdkckpmkfjdaa.L
