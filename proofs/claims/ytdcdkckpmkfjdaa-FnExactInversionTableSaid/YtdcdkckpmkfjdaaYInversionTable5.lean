/- Texts of one chain, in build order. -/
import Derived.Test.YtdcdkckpmkfjdaaYInversionTable4
import Derived.Test.YtdcdkckpmkfjdaaWMore
namespace Go.Proofs.Ytdcdkckpmkfjdaa
open Go.RowKit Go.Proofs.Ytdcdkckpmkfjdaa.P Go.Proofs.Ytdcdkckpmkfjdaa.L Go.Proofs.YtdcdkckpmkfjdaaW.PrintWords Go.Proofs.YtdcdkckpmkfjdaaW.PrintLast Go.Proofs.YtdcdkckpmkfjdaaW.PrintMore
set_option linter.unusedVariables false
set_option linter.unusedSimpArgs false
theorem blk_drewU {w : World} {g : Nat} {o : Obj} (h : w.heap[g]? = some o) : w.drew.heap[g]? = some o := h
theorem cell_farU {W : World} {p q : Addr} {u v : Value} (h : W.cell? q = some v) (hn : q.block ≠ p.block) : (W.setCell p u).cell? q = some v := by
  unfold World.cell? at h ⊢; rw [Below.heap_setCell W p u _ hn]; exact h
theorem cell_allocU {W : World} {q : Addr} {v : Value} {o : Obj} (h : W.cell? q = some v) : (W.alloc o).cell? q = some v := pw_cell_below (below_alloc (Below.refl _ _) _) h
theorem aux_have {p q : Prop} (h : p) (k : p → q) : q := k h
theorem es_ne {W : World} {a b s t : Nat} {x y : Array Value} (h : W.heap[a]? = some (.cells x s (0, 0))) (k : W.heap[b]? = some (.cells y t (0, 0))) (hst : s ≠ t) : a ≠ b := by
  rintro rfl; rw [h] at k; injection k with k; injection k with _ k; exact hst k
theorem es_fin (St : Nat → World → (Nat → Prop) → Prop) (hSt : Stays St) (n cr g : Nat) (lb : Array Value) (R : List (List Int)) (hn : n ≤ 100) (hR : R.length ≤ 1000) (All : List (List (List Int)))
    (eg : ∀ args w, (callFunc g args).run Try.prog w = .ok (.enter g args) w)
    (hf : ∀ (j : Nat) (T : List (List Int)) (A : Option Addr) (c : Nat) (W : World) (ok : Nat → Prop), All[j]? = some T → St j W ok → Kd.F (Kd.slice 3 (Kd.int .i64)) W (fun k => ¬ ok k ∧ k < W.heap.size) A T.length T → T.length ≤ c → Calls Try.prog g (#[.slice A T.length c] ++ lb) W (Stepped St (j + 1) W ok))
    (k : Nat) (hE : esE k n R [] (List.replicate n 0) = some All) (hk : k ≤ 100000) (w W6 : World) (ok : Nat → Prop) (hst : St 0 w ok) {Ar : Option Addr} {br bs be gs : Nat} (hb : Below w.heap.size w W6)
    (h1 : W6.heap[w.heap.size]? = some (.cells #[.int .i64 n] 3 (0, 0))) (h2 : W6.heap[w.heap.size + 1]? = some (.cells #[.func (.func g) #[] lb] 66 (0, 0)))
    (h3 : W6.heap[br]? = some (.cells #[.slice Ar R.length cr] 36 (0, 0))) (h4 : W6.heap[bs]? = some (.cells #[.slice (some ⟨gs, 0, none⟩) n n] 22 (0, 0)))
    (h5 : W6.heap[be]? = some (.cells #[.func (.func 122) #[] #[.pointer (some ⟨w.heap.size, 0, none⟩), .pointer (some ⟨w.heap.size + 1, 0, none⟩), .pointer (some ⟨br, 0, none⟩), .pointer (some ⟨bs, 0, none⟩), .pointer (some ⟨be, 0, none⟩)]] 66 (0, 0)))
    (h6 : W6.heap[gs]? = some (.cells (madeCells #[.int .i64 0] n) 3 (0, 0))) (hlo : w.heap.size < br ∧ w.heap.size < bs ∧ w.heap.size < be ∧ w.heap.size < gs)
    (hF : Kd.F (Kd.slice 3 (Kd.int .i64)) W6 (fun k => w.heap.size ≤ k ∧ k ≠ gs) Ar R.length R) (hc : R.length ≤ cr) :
    Calls Try.prog 122 #[.slice none 0 0, .pointer (some ⟨w.heap.size, 0, none⟩), .pointer (some ⟨w.heap.size + 1, 0, none⟩), .pointer (some ⟨br, 0, none⟩), .pointer (some ⟨bs, 0, none⟩), .pointer (some ⟨be, 0, none⟩)] W6
      (fun e w' => e = .returned (.bool true) ∧ ∃ ok', St All.length w' ok' ∧ Touch w w' ok ∧ ∀ k, ok' k → ok k ∨ w.heap.size ≤ k) := by
  have hlt := hSt.lt hst
  have hI : intBlk W6 gs (List.replicate n 0) := by unfold intBlk; rw [h6, madeInts]
  have hsz := hb.size
  have henv : EsEnv W6 w.heap.size (w.heap.size + 1) br bs be gs n cr g lb Ar R := ⟨h1, h2, h3, h4, h5⟩
  have hno : ∀ q, w.heap.size ≤ q → ¬ ok q := fun q h h' => by have := hlt q h'; omega
  have hE2 : envE w.heap.size (w.heap.size + 1) br bs be gs ok := ⟨⟨hno _ (by omega), hno _ (by omega), hno _ (by omega), hno _ (by omega), hno _ (by omega), hno _ (by omega)⟩, by omega, es_ne h2 h6 (by decide), es_ne h3 h6 (by decide), es_ne h4 h6 (by decide), es_ne h5 h6 (by decide)⟩
  refine (eachSigns_1.calls St hSt n cr g lb Ar R hn hR hc w.heap.size (w.heap.size + 1) br bs be gs All eg hf k [] (List.replicate n 0) All 0 none 0 W6 ok hE (by simpa using hk) (by simp) (fun i _ => by simp) henv hI hE2 (hSt.below hst hb) (Kd.F_mono (Kd.F_bound hF) (fun k h => ⟨⟨hno k h.1.1, h.1.2⟩, h.2⟩)) (Kd.F_nil _ _ _) (Nat.le_refl _)).mono ?_
  rintro e w' ⟨rfl, ok', hs', hi', ht', ho'⟩
  refine ⟨rfl, ok', by simpa using hs', (Touch.of_below hb ok).trans ht' (fun k h => h.elim .inl (fun h => .inr (by omega))), fun k h => (ho' k h).imp id (fun h => by omega)⟩
theorem hs_alloc {W w1 : World} {k : Nat} {o : Obj} (h : W.heap[k]? = w1.heap[k]?) (hk : k < W.heap.size) : (W.alloc o).heap[k]? = w1.heap[k]? := ((below_alloc (Below.refl W.heap.size W) o).block k hk).trans h
theorem hs_set {W w1 : World} {k : Nat} {p : Addr} {u : Value} (h : W.heap[k]? = w1.heap[k]?) (hk : k ≠ p.block) : (W.setCell p u).heap[k]? = w1.heap[k]? := (Below.heap_setCell W p u k hk).trans h
theorem put1 {W : World} {g t : Nat} {v : Value} (h : W.heap[g]? = some (.cells #[.slice none 0 0] t (0, 0))) : (W.setCell ⟨g, 0, none⟩ v).heap[g]? = some (.cells #[v] t (0, 0)) := blk_put h 0 v rfl
theorem farU {W : World} {g : Nat} {o : Obj} {p : Addr} {u : Value} (h : W.heap[g]? = some o) (hn : g ≠ p.block) : (W.setCell p u).heap[g]? = some o := (Below.heap_setCell W p u g hn).trans h
theorem farU2 {W : World} {g : Nat} {o : Obj} {p : Addr} {u : Value} (hn : g ≠ p.block) (h : W.heap[g]? = some o) : (W.setCell p u).heap[g]? = some o := farU h hn
theorem es_lo {α : Type} {d : Kd α} {W : World} {a b n : Nat} {A : Option Addr} {xs : List α} (h : Kd.F d W (fun k => a ≤ k ∧ k < b) A n xs) : ∃ lo hi, lo = a ∧ hi = b ∧ Kd.F d W (fun k => lo ≤ k ∧ k < hi) A n xs := ⟨a, b, rfl, rfl, h⟩
set_option maxHeartbeats 40000000 in
set_option maxRecDepth 100000 in
theorem impl_eachSigns.callsG (n : Nat) (hn : n ≤ 100) (R : List (List Int)) (g : Nat) (lb : Array Value) (w : World)
    (hsr : ∀ w : World, Calls Try.prog 121 #[.int .i64 n] w (RetNR w R))
    (St : Nat → World → (Nat → Prop) → Prop) (hSt : Stays St) (hR : R.length ≤ 1000) (All : List (List (List Int)))
    (eg : ∀ args w, (callFunc g args).run Try.prog w = .ok (.enter g args) w)
    (hf : ∀ (j : Nat) (T : List (List Int)) (A : Option Addr) (c : Nat) (W : World) (ok : Nat → Prop), All[j]? = some T → St j W ok → Kd.F (Kd.slice 3 (Kd.int .i64)) W (fun k => ¬ ok k ∧ k < W.heap.size) A T.length T → T.length ≤ c → Calls Try.prog g (#[.slice A T.length c] ++ lb) W (Stepped St (j + 1) W ok))
    (k : Nat) (hE : esE k n R [] (List.replicate n 0) = some All) (hk : k ≤ 100000) (ok : Nat → Prop) (hst : St 0 w ok) :
    Calls Try.prog 82 #[.int .i64 n, .func (.func g) #[] lb] w (EsRet St All.length w ok) := by
  have FIN := Aside0.mk (fun cr W6 Ar br bs be gs => es_fin St hSt n cr g lb R hn hR All eg hf k hE hk w W6 ok hst (Ar := Ar) (br := br) (bs := bs) (be := be) (gs := gs))
  have egE : ∀ args w, (callFunc 122 args).run Try.prog w = .ok (.enter 122 args) w := enters_of Try.func122 (by kernel_rfl) rfl
  have mk1 : ∀ W : World, Sem.run Try.prog (Instr.makeSlice 22 (.int .i64 n) (.int .i64 n)) W = Result.ok (Value.slice (some ⟨W.heap.size, 0, none⟩) n n) (W.alloc (.cells (madeCells #[.int .i64 0] n) 3)) := fun W => run_make_row' (P := Try.prog) 22 3 (.int .i64 0) 8 Try.underlying22 info_ints rfl .i64 .i64 n (by omega) (by omega) W
  have HSR := Aside0.mk hsr
  obtain ⟨wb, hwb⟩ : ∃ wb, wb = (w.alloc (.cells #[.int .i64 n] 3)).alloc (.cells #[.func (.func g) #[] lb] 66) := ⟨_, rfl⟩
  have hk1 : wb.cell? ⟨w.heap.size, 0, none⟩ = some (.int .i64 n) := by rw [hwb]; exact blk_cell (blk_alloc (blk_new_at (by simp)) _) 0
  have HBC := Aside0.mk (Below.refl wb.heap.size wb)
  have hf2 : wb.heap[w.heap.size + 1]? = some (.cells #[.func (.func g) #[] lb] 66 (0, 0)) := by rw [hwb]; exact blk_new_at (by simp)
  have hf1 : wb.heap[w.heap.size]? = some (.cells #[.int .i64 n] 3 (0, 0)) := by rw [hwb]; exact blk_alloc (blk_new_at rfl) _
  have HE1 := Aside0.mk hf1
  have HE2 := Aside0.mk hf2
  clear hsr eg hf hst hE hf1 hf2
  go_enter Try.func82, Try.ntmps82
  subst hwb
  go_upto_region 1 with (fail)
  rename_i K hK
  have REST : ∀ (br bs gs c1 : Nat) (A1 : Option Addr) (w5 : World), R.length ≤ c1 → Below w.heap.size w w5 → w5.heap[w.heap.size]? = some (.cells #[.int .i64 n] 3 (0, 0)) → w5.heap[w.heap.size + 1]? = some (.cells #[.func (.func g) #[] lb] 66 (0, 0)) →
      w5.heap[br]? = some (.cells #[.slice A1 R.length c1] 36 (0, 0)) → w5.heap[bs]? = some (.cells #[.slice (some ⟨gs, 0, none⟩) n n] 22 (0, 0)) → w5.heap[gs]? = some (.cells (madeCells #[.int .i64 0] n) 3 (0, 0)) → (w.heap.size < br ∧ w.heap.size < bs ∧ w.heap.size < gs) →
      Kd.F (Kd.slice 3 (Kd.int .i64)) w5 (fun k => w.heap.size ≤ k ∧ k ≠ gs) A1 R.length R →
      K { tmps := #[.int .i64 n, .func (.func g) #[] lb, .pointer (some ⟨w.heap.size, 0, none⟩), .pointer (some ⟨w.heap.size + 1, 0, none⟩), .pointer (some ⟨br, 0, none⟩), .pointer (some ⟨bs, 0, none⟩), undef, .int .i64 n, .slice A1 R.length c1, .int .i64 n, .slice (some ⟨gs, 0, none⟩) n n, undef, undef, undef], defers := [] } w5 := by
    intro br bs gs c1 A1 w5 hc hb h1 h2 h3 h4 h6 hlo hF
    have hsz := hb.size
    have hcall := FIN.out c1 (w5.alloc (.cells #[.func (.func 122) #[] #[.pointer (some ⟨w.heap.size, 0, none⟩), .pointer (some ⟨w.heap.size + 1, 0, none⟩), .pointer (some ⟨br, 0, none⟩), .pointer (some ⟨bs, 0, none⟩), .pointer (some ⟨w5.heap.size, 0, none⟩)]] 66)) A1 br bs w5.heap.size gs (below_alloc hb _) (blk_alloc h1 _) (blk_alloc h2 _) (blk_alloc h3 _) (blk_alloc h4 _) (blk_new_at rfl) (blk_alloc h6 _) ⟨hlo.1, hlo.2.1, by have := blk_lt h3; omega, hlo.2.2⟩ (Kd.F_below hF (below_alloc (Below.refl _ _) _)) hc
    have HCALL := Aside0.mk hcall
    clear hcall hc hb h1 h2 h3 h4 h6 hlo hF
    refine hK _ _ ?_
    go_wp2_with (go_at_fn 122; refine HCALL.out.mono ?_; rintro e w7 ⟨rfl, ok7, hs7, ht7, ho7⟩; have HS7 := Aside0.mk hs7; have HT7 := Aside0.mk ht7; have HO7 := Aside0.mk ho7; clear hs7 ht7 ho7)
    go_end0
    exact ⟨rfl, ok7, HS7.out, HT7.out, HO7.out⟩
  go_region_held3 (fun W1 => W1.cell? ⟨w.heap.size, 0, none⟩ = some (.int .i64 n) ∧ True) (first | (exact ⟨hk1, trivial⟩) | (exact ⟨hq1, trivial⟩) | (refine ⟨?_, trivial⟩; repeat' (first | exact hq1 | exact hk1 | refine cell_allocU ?_ | refine cell_farU ?_ ?_ | omega | (simp; omega)))) (first
      | (go_at_call 121
         refine (HSR.out _).mono ?_
         rintro e w1 ⟨v1, rfl, hN1, hb1⟩
         obtain ⟨A1, c1, rfl⟩ := Kd.N_slice hN1
         have hq1 : w1.cell? ⟨w.heap.size, 0, none⟩ = some (.int .i64 n) := pw_cell_below hb1 (by first | exact hk1 | exact pw_cell_below (below_alloc (Below.refl _ _) _) hk1 | exact pw_cell_below (below_alloc (below_alloc (Below.refl _ _) _) _) hk1 | exact pw_cell_below (below_alloc (below_alloc (below_alloc (Below.refl _ _) _) _) _) hk1)
         have hlt1 : w.heap.size < w1.heap.size := (by have h_ := hb1.size; simp at h_; omega)
         have hlu1 := Nat.lt_succ_of_lt hlt1
         have hlv1 := Nat.lt_succ_of_lt hlu1
         (try (refine aux_have (p := w1.heap[w.heap.size + 1 + 1]? = some (.cells #[.slice none 0 0] 36 (0, 0))) ?_ (fun hxr0 => ?_); (refine blk_below ?_ hb1; (try refine blk_drewU ?_); first | (refine blk_new_at ?_; focus (simp; done)) | (refine blk_alloc (blk_new_at ?_) _; focus (simp; done)) | (refine blk_alloc (blk_alloc (blk_new_at ?_) _) _; focus (simp; done))); have hxcr0 : w1.cell? ⟨w.heap.size + 1 + 1, 0, none⟩ = some (.slice none 0 0) := blk_cell hxr0 0; have hxfr0 : w1.frozen? ⟨w.heap.size + 1 + 1, 0, none⟩ = false := blk_frozen hxr0 0; have hltr0 := blk_lt hxr0; have hlur0 := Nat.lt_succ_of_lt hltr0; have hlvr0 := Nat.lt_succ_of_lt hlur0; have HXr0 := Aside0.mk hxr0; clear hxr0))
         (try (refine aux_have (p := w1.heap[w.heap.size + 1 + 1]? = some (.cells #[.slice none 0 0] 22 (0, 0))) ?_ (fun hxs0 => ?_); (refine blk_below ?_ hb1; (try refine blk_drewU ?_); first | (refine blk_new_at ?_; focus (simp; done)) | (refine blk_alloc (blk_new_at ?_) _; focus (simp; done)) | (refine blk_alloc (blk_alloc (blk_new_at ?_) _) _; focus (simp; done))); have hxcs0 : w1.cell? ⟨w.heap.size + 1 + 1, 0, none⟩ = some (.slice none 0 0) := blk_cell hxs0 0; have hxfs0 : w1.frozen? ⟨w.heap.size + 1 + 1, 0, none⟩ = false := blk_frozen hxs0 0; have hlts0 := blk_lt hxs0; have hlus0 := Nat.lt_succ_of_lt hlts0; have hlvs0 := Nat.lt_succ_of_lt hlus0; have HXs0 := Aside0.mk hxs0; clear hxs0))
         (try (refine aux_have (p := w1.heap[w.heap.size + 1 + 1]? = some (.cells (madeCells #[.int .i64 0] n) 3 (0, 0))) ?_ (fun hxm0 => ?_); (refine blk_below ?_ hb1; (try refine blk_drewU ?_); first | (refine blk_new_at ?_; focus (simp; done)) | (refine blk_alloc (blk_new_at ?_) _; focus (simp; done)) | (refine blk_alloc (blk_alloc (blk_new_at ?_) _) _; focus (simp; done))); have hltm0 := blk_lt hxm0; have hlum0 := Nat.lt_succ_of_lt hltm0; have hlvm0 := Nat.lt_succ_of_lt hlum0; have HXm0 := Aside0.mk hxm0; clear hxm0))
         (try (refine aux_have (p := w1.heap[w.heap.size + 1 + 1 + 1]? = some (.cells #[.slice none 0 0] 36 (0, 0))) ?_ (fun hxr1 => ?_); (refine blk_below ?_ hb1; (try refine blk_drewU ?_); first | (refine blk_new_at ?_; focus (simp; done)) | (refine blk_alloc (blk_new_at ?_) _; focus (simp; done)) | (refine blk_alloc (blk_alloc (blk_new_at ?_) _) _; focus (simp; done))); have hxcr1 : w1.cell? ⟨w.heap.size + 1 + 1 + 1, 0, none⟩ = some (.slice none 0 0) := blk_cell hxr1 0; have hxfr1 : w1.frozen? ⟨w.heap.size + 1 + 1 + 1, 0, none⟩ = false := blk_frozen hxr1 0; have hltr1 := blk_lt hxr1; have hlur1 := Nat.lt_succ_of_lt hltr1; have hlvr1 := Nat.lt_succ_of_lt hlur1; have HXr1 := Aside0.mk hxr1; clear hxr1))
         (try (refine aux_have (p := w1.heap[w.heap.size + 1 + 1 + 1]? = some (.cells #[.slice none 0 0] 22 (0, 0))) ?_ (fun hxs1 => ?_); (refine blk_below ?_ hb1; (try refine blk_drewU ?_); first | (refine blk_new_at ?_; focus (simp; done)) | (refine blk_alloc (blk_new_at ?_) _; focus (simp; done)) | (refine blk_alloc (blk_alloc (blk_new_at ?_) _) _; focus (simp; done))); have hxcs1 : w1.cell? ⟨w.heap.size + 1 + 1 + 1, 0, none⟩ = some (.slice none 0 0) := blk_cell hxs1 0; have hxfs1 : w1.frozen? ⟨w.heap.size + 1 + 1 + 1, 0, none⟩ = false := blk_frozen hxs1 0; have hlts1 := blk_lt hxs1; have hlus1 := Nat.lt_succ_of_lt hlts1; have hlvs1 := Nat.lt_succ_of_lt hlus1; have HXs1 := Aside0.mk hxs1; clear hxs1))
         (try (refine aux_have (p := w1.heap[w.heap.size + 1 + 1 + 1]? = some (.cells (madeCells #[.int .i64 0] n) 3 (0, 0))) ?_ (fun hxm1 => ?_); (refine blk_below ?_ hb1; (try refine blk_drewU ?_); first | (refine blk_new_at ?_; focus (simp; done)) | (refine blk_alloc (blk_new_at ?_) _; focus (simp; done)) | (refine blk_alloc (blk_alloc (blk_new_at ?_) _) _; focus (simp; done))); have hltm1 := blk_lt hxm1; have hlum1 := Nat.lt_succ_of_lt hltm1; have hlvm1 := Nat.lt_succ_of_lt hlum1; have HXm1 := Aside0.mk hxm1; clear hxm1))
         (try (refine aux_have (p := w1.heap[w.heap.size + 1 + 1 + 1 + 1]? = some (.cells #[.slice none 0 0] 36 (0, 0))) ?_ (fun hxr2 => ?_); (refine blk_below ?_ hb1; (try refine blk_drewU ?_); first | (refine blk_new_at ?_; focus (simp; done)) | (refine blk_alloc (blk_new_at ?_) _; focus (simp; done)) | (refine blk_alloc (blk_alloc (blk_new_at ?_) _) _; focus (simp; done))); have hxcr2 : w1.cell? ⟨w.heap.size + 1 + 1 + 1 + 1, 0, none⟩ = some (.slice none 0 0) := blk_cell hxr2 0; have hxfr2 : w1.frozen? ⟨w.heap.size + 1 + 1 + 1 + 1, 0, none⟩ = false := blk_frozen hxr2 0; have hltr2 := blk_lt hxr2; have hlur2 := Nat.lt_succ_of_lt hltr2; have hlvr2 := Nat.lt_succ_of_lt hlur2; have HXr2 := Aside0.mk hxr2; clear hxr2))
         (try (refine aux_have (p := w1.heap[w.heap.size + 1 + 1 + 1 + 1]? = some (.cells #[.slice none 0 0] 22 (0, 0))) ?_ (fun hxs2 => ?_); (refine blk_below ?_ hb1; (try refine blk_drewU ?_); first | (refine blk_new_at ?_; focus (simp; done)) | (refine blk_alloc (blk_new_at ?_) _; focus (simp; done)) | (refine blk_alloc (blk_alloc (blk_new_at ?_) _) _; focus (simp; done))); have hxcs2 : w1.cell? ⟨w.heap.size + 1 + 1 + 1 + 1, 0, none⟩ = some (.slice none 0 0) := blk_cell hxs2 0; have hxfs2 : w1.frozen? ⟨w.heap.size + 1 + 1 + 1 + 1, 0, none⟩ = false := blk_frozen hxs2 0; have hlts2 := blk_lt hxs2; have hlus2 := Nat.lt_succ_of_lt hlts2; have hlvs2 := Nat.lt_succ_of_lt hlus2; have HXs2 := Aside0.mk hxs2; clear hxs2))
         (try (refine aux_have (p := w1.heap[w.heap.size + 1 + 1 + 1 + 1]? = some (.cells (madeCells #[.int .i64 0] n) 3 (0, 0))) ?_ (fun hxm2 => ?_); (refine blk_below ?_ hb1; (try refine blk_drewU ?_); first | (refine blk_new_at ?_; focus (simp; done)) | (refine blk_alloc (blk_new_at ?_) _; focus (simp; done)) | (refine blk_alloc (blk_alloc (blk_new_at ?_) _) _; focus (simp; done))); have hltm2 := blk_lt hxm2; have hlum2 := Nat.lt_succ_of_lt hltm2; have hlvm2 := Nat.lt_succ_of_lt hlum2; have HXm2 := Aside0.mk hxm2; clear hxm2))
         have HC1 := Aside0.mk (Kd.N_reads' hN1).2.1
         refine aux_have (p := w1.heap[w.heap.size]? = some (.cells #[.int .i64 n] 3 (0, 0))) ?_ (fun hg1 => ?_)
         focus (refine blk_below ?_ hb1; (try refine blk_drewU ?_); repeat (first | exact HE1.out | refine blk_alloc ?_ _))
         have HG1 := Aside0.mk hg1
         clear hg1
         refine aux_have (p := w1.heap[w.heap.size + 1]? = some (.cells #[.func (.func g) #[] lb] 66 (0, 0))) ?_ (fun hg2 => ?_)
         focus (refine blk_below ?_ hb1; (try refine blk_drewU ?_); repeat (first | exact HE2.out | refine blk_alloc ?_ _))
         have HG2 := Aside0.mk hg2
         clear hg2
         have n_ := fun h => Aside0.mk (Below.trans (B := w.heap.size) h (hb1.mono (Below.size h)))
         have HBW := n_ (by repeat (first | exact Below.refl _ _ | refine below_alloc ?_ _ | refine below_drew ?_))
         clear n_
         obtain ⟨lo, hi, hlo, hhi, hF1⟩ := es_lo (Kd.F_bound (Kd.N_F hN1))
         simp at hlo
         have HLO := Aside0.mk hlo
         have HHI := Aside0.mk hhi
         have HF1 := Aside0.mk hF1
         have HLT := Aside0.mk hb1.size
         clear hN1 hb1 hlo hhi hF1
         skip))
  all_goals
    have h_lt := HLT.out
    simp at h_lt
    refine REST _ _ _ c1 A1 _ HC1.out ?_ ?_ ?_ ?_ ?_ ?_ ?_ ?_
    · repeat' (first | with_reducible exact HBW.out | with_reducible refine below_alloc ?_ _ | with_reducible refine Below.setCell ?_ ?_ _ | (dsimp only; omega))
    · repeat' (first | with_reducible exact HG1.out | (with_reducible refine blk_new_at ?_; focus (simp [World.setCell]; done)) | (with_reducible refine blk_alloc ?_ _) | (with_reducible refine farU2 ?_ ?_; focus (first | (dsimp only; omega) | omega | (simp [World.setCell]; omega))) | (with_reducible refine put1 ?_))
    · repeat' (first | with_reducible exact HG2.out | (with_reducible refine blk_new_at ?_; focus (simp [World.setCell]; done)) | (with_reducible refine blk_alloc ?_ _) | (with_reducible refine farU2 ?_ ?_; focus (first | (dsimp only; omega) | omega | (simp [World.setCell]; omega))) | (with_reducible refine put1 ?_))
    · repeat' (first | with_reducible exact HXr0.out | with_reducible exact HXr1.out | with_reducible exact HXr2.out | (with_reducible refine blk_new_at ?_; focus (simp [World.setCell]; done)) | (with_reducible refine blk_alloc ?_ _) | (with_reducible refine farU2 ?_ ?_; focus (first | (dsimp only; omega) | omega | (simp [World.setCell]; omega))) | (with_reducible refine put1 ?_))
    · repeat' (first | with_reducible exact HXs0.out | with_reducible exact HXs1.out | with_reducible exact HXs2.out | (with_reducible refine blk_new_at ?_; focus (simp [World.setCell]; done)) | (with_reducible refine blk_alloc ?_ _) | (with_reducible refine farU2 ?_ ?_; focus (first | (dsimp only; omega) | omega | (simp [World.setCell]; omega))) | (with_reducible refine put1 ?_))
    · repeat' (first | with_reducible exact HXm0.out | with_reducible exact HXm1.out | with_reducible exact HXm2.out | (with_reducible refine blk_new_at ?_; focus (simp [World.setCell]; done)) | (with_reducible refine blk_alloc ?_ _) | (with_reducible refine farU2 ?_ ?_; focus (first | (dsimp only; omega) | omega | (simp [World.setCell]; omega))) | (with_reducible refine put1 ?_))
    · omega
    · have h_lo := HLO.out
      have h_hi := HHI.out
      refine Kd.F_mono (Kd.F_step HF1.out ?_) ?_
      · intro q h0 h1
        repeat' (first | with_reducible rfl | with_reducible refine hs_alloc ?_ ?_ | with_reducible refine hs_set ?_ ?_ | with_reducible exact h1 | (dsimp only; omega) | (simp [World.setCell]; omega))
      · intro q hq
        omega
end Go.Proofs.Ytdcdkckpmkfjdaa

namespace Go.Proofs.Ytdcdkckpmkfjdaa
open Go.RowKit Go.Proofs.Ytdcdkckpmkfjdaa.P Go.Proofs.Ytdcdkckpmkfjdaa.L Go.Proofs.YtdcdkckpmkfjdaaW.PrintWords Go.Proofs.YtdcdkckpmkfjdaaW.PrintLast Go.Proofs.YtdcdkckpmkfjdaaW.PrintMore
set_option linter.unusedVariables false
set_option linter.unusedSimpArgs false

/-- The state of total: the variable bo holds the sum. -/
def ToSt (W0 : World) (B bo : Nat) (cs : Nat → Int) (j : Nat) (W : World) (ok : Nat → Prop) : Prop :=
 (ok = fun k => k < W0.heap.size) ∧ W0.heap.size ≤ W.heap.size ∧ (∀ k, k < B → W.heap[k]? = W0.heap[k]?) ∧ W.heap[bo]? = some (.cells #[.int .i64 (cs j)] 3 (0, 0))
set_option maxHeartbeats 4000000 in
set_option maxRecDepth 100000 in
theorem total_1.calls (W0 : World) (B bf bo gof : Nat) (lbof : Array Value) (cs : Nat → Int) (All : List (List (List Int))) (ofv : List (List Int) → Int) (hbf : bf < B) (hB : B ≤ bo) (hbo : bo < W0.heap.size)
  (hfn : W0.heap[bf]? = some (.cells #[.func (.func gof) #[] lbof] 56 (0, 0)))
  (eg : ∀ args w, (callFunc gof args).run Try.prog w = .ok (.enter gof args) w)
  (hof : ∀ (T : List (List Int)) (A : Option Addr) (c : Nat) (W : World), T ∈ All → (∀ k, k < B → W.heap[k]? = W0.heap[k]?) → Kd.C (Kd.slice 3 (Kd.int .i64)) W A T.length T → T.length ≤ c → Calls Try.prog gof (#[.slice A T.length c] ++ lbof) W fun e w' => e = .returned (.int .i64 (ofv T)) ∧ Below W.heap.size W w')
  (hcs : ∀ (j : Nat) (T : List (List Int)), All[j]? = some T → cs (j + 1) = wrap64 (cs j + ofv T))
  (j : Nat) (T : List (List Int)) (A : Option Addr) (c : Nat) (W : World) (ok : Nat → Prop) (hT : All[j]? = some T) (hst : ToSt W0 B bo cs j W ok) (hF : Kd.F (Kd.slice 3 (Kd.int .i64)) W (fun k => ¬ ok k ∧ k < W.heap.size) A T.length T) (hc : T.length ≤ c) :
  Calls Try.prog 116 (#[.slice A T.length c] ++ #[.pointer (some ⟨bo, 0, none⟩), .pointer (some ⟨bf, 0, none⟩)]) W (Stepped (ToSt W0 B bo cs) (j + 1) W ok) := by
 obtain ⟨rfl, hsz, hlow, hcell⟩ := hst
 have hm1 := hcs j T hT
 obtain ⟨m, hm⟩ : ∃ m, m = ofv T := ⟨_, rfl⟩
 have hlow2 : ∀ W', Below W.heap.size W W' → ∀ k, k < B → W'.heap[k]? = W0.heap[k]? := fun W' hb k hk => (hb.block k (by omega)).trans (hlow k hk)
 have HCF := Aside0.mk (fun W' (hb : Below W.heap.size W W') => hm ▸ hof T A c W' (List.mem_of_getElem? hT) (hlow2 W' hb) (Kd.F_now (Kd.F_below hF hb)) hc)
 rw [← hm] at hm1
 have hfw : W.heap[bf]? = some (.cells #[.func (.func gof) #[] lbof] 56 (0, 0)) := (hlow bf hbf).trans hfn
 have hk1 : W.cell? ⟨bf, 0, none⟩ = some (.func (.func gof) #[] lbof) := blk_cell hfw 0
 have hk2 : W.cell? ⟨bo, 0, none⟩ = some (.int .i64 (cs j)) := blk_cell hcell 0
 have hk3 : W.frozen? ⟨bo, 0, none⟩ = false := blk_frozen hcell 0
 have HM := Aside0.mk hm1
 have HCELL := Aside0.mk hcell
 have HSZ := Aside0.mk hsz
 have HLOW := Aside0.mk hlow2
 have HBC := Aside0.mk (Below.refl W.heap.size W)
 clear hof hcs hm1 hcell hsz hlow hlow2 hF hc hfn hT hfw hm
 go_enter Try.func116, Try.ntmps116
 go_wp2
 go_region_law (first
   | (go_simp; go_at_fn gof; (refine (HCF.out _ ?hbY).mono ?_); (case hbY => exact (by repeat (first | exact HBC.out | refine below_drew ?_))); rintro e w1 ⟨rfl, hb⟩; have n_ := fun h => Aside0.mk (Below.trans (B := W.heap.size) h (hb.mono (Below.size h))); have m_ := n_ (by repeat (first | exact HBC.out | refine below_drew ?_)); clear n_ HBC; have HBC := m_; clear m_; have hq1 := pw_cell_below HBC.out hk1; have hq2 := pw_cell_below HBC.out hk2; have hq3 : w1.frozen? ⟨bo, 0, none⟩ = false := blk_frozen (blk_below HCELL.out HBC.out) 0; clear hb))
 all_goals
  have HT := Aside0.mk ((Touch.of_below HBC.out (fun k => k < W0.heap.size)).set ⟨bo, 0, none⟩ (.inl hbo) (.int .i64 (IntKind.i64.wrap (cs j + m))))
  go_wp2
  go_ret
  refine ⟨rfl, fun k => k < W0.heap.size, ⟨rfl, Nat.le_trans HSZ.out HT.out.size, fun k hk => (Below.heap_setCell _ _ _ _ (by dsimp only; omega)).trans (HLOW.out _ HBC.out k hk), ?_⟩, HT.out, fun k h => .inl h⟩
  rw [HM.out, ← i64_w]
  exact blk_put (blk_below HCELL.out HBC.out) 0 _ rfl
end Go.Proofs.Ytdcdkckpmkfjdaa

namespace Go.Proofs.Ytdcdkckpmkfjdaa
open Go.RowKit Go.Proofs.Ytdcdkckpmkfjdaa.P Go.Proofs.Ytdcdkckpmkfjdaa.L Go.Proofs.YtdcdkckpmkfjdaaW.PrintWords Go.Proofs.YtdcdkckpmkfjdaaW.PrintLast Go.Proofs.YtdcdkckpmkfjdaaW.PrintMore
set_option linter.unusedVariables false
set_option maxRecDepth 100000

def srX (n : Nat) : List (List Int) := (srE 100 n [] 0).getD []
def esX (n : Nat) : List (List (List Int)) := (esE 1000 n (srX n) [] (List.replicate n 0)).getD []
def EsOk (n : Nat) : Prop := srE 100 n [] 0 = some (srX n) ∧ (srX n).length ≤ 1000 ∧ esE 1000 n (srX n) [] (List.replicate n 0) = some (esX n)
theorem es_1 : EsOk 1 := by unfold EsOk; decide +kernel
theorem es_2 : EsOk 2 := by unfold EsOk; decide +kernel
theorem es_3 : EsOk 3 := by unfold EsOk; decide +kernel
theorem es_4 : EsOk 4 := by unfold EsOk; decide +kernel
theorem es_all {n : Nat} (h0 : 1 ≤ n) (h1 : n ≤ 4) : EsOk n := by
 have e : n = 1 ∨ n = 2 ∨ n = 3 ∨ n = 4 := by omega
 rcases e with rfl | rfl | rfl | rfl
 ·exact es_1
 ·exact es_2
 ·exact es_3
 ·exact es_4
theorem eachSigns_of {n : Nat} (hn : n ≤ 100) (h : EsOk n) : EachSigns n (esX n) := fun g lb w St hSt eg hf ok hst =>
 impl_eachSigns.callsG n hn (srX n) g lb w (fun w => impl_signRows.callsG n 100 (srX n) w h.1 (by omega) (by have := h.2.1; omega)) St hSt h.2.1 (esX n) eg hf 1000 h.2.2 (by omega) ok hst
theorem eachSigns_all {n : Nat} (h0 : 1 ≤ n) (h1 : n ≤ 4) : EachSigns n (esX n) := eachSigns_of (by omega) (es_all h0 h1)
/-- The counts behind j tables. -/
def csOf (ofv : List (List Int) → Int) : List (List (List Int)) → List Int → Nat → List Int
 | _, c, 0 => c
 | [], c, _ + 1 => c
 | T :: L, c, j + 1 => csOf ofv L ((spec_weAdd.l0 1000 (ofv T) c).getD []) j
def csOk (ofv : List (List Int) → Int) : List (List (List Int)) → List Int → Bool
 | [], _ => true
 | T :: L, c => match spec_weAdd.l0 1000 (ofv T) c with
  | some c' => decide (0 ≤ ofv T) && csOk ofv L c'
  | none => false
theorem csOk_step (ofv : List (List Int) → Int) : ∀ (L : List (List (List Int))) (c : List Int), csOk ofv L c = true → ∀ (j : Nat) (T : List (List Int)), L[j]? = some T → 0 ≤ ofv T ∧ spec_weAdd.l0 1000 (ofv T) (csOf ofv L c j) = some (csOf ofv L c (j + 1))
 | [], c, h, j, T, hT => by simp at hT
 | T0 :: L, c, h, j, T, hT => by
  rw [csOk] at h
  cases hc : spec_weAdd.l0 1000 (ofv T0) c with
  | none => rw [hc] at h; cases h
  | some c' =>
   rw [hc] at h
   simp only [Bool.and_eq_true, decide_eq_true_eq] at h
   cases j with
   | zero =>
    simp only [List.getElem?_cons_zero, Option.some.injEq] at hT
    subst hT
    refine ⟨h.1, ?_⟩
    cases L <;> simp [csOf, hc]
   | succ j =>
    have := csOk_step ofv L c' h.2 j T (by simpa using hT)
    simp only [csOf, hc, Option.getD_some]
    exact this
end Go.Proofs.Ytdcdkckpmkfjdaa

namespace Go.Proofs.Ytdcdkckpmkfjdaa.P
open Go.RowKit Go.Proofs.YtdcdkckpmkfjdaaW.PrintWords Go.Proofs.YtdcdkckpmkfjdaaW.PrintLast Go.Proofs.YtdcdkckpmkfjdaaW.PrintMore
attribute [local go_sem] max2_int min2_int max_two min_two max_three min_three max_four min_four   -- for this text's walks alone
set_option linter.unusedVariables false
set_option linter.unusedSimpArgs false

def impl_sum.l0 : Nat → Int → List Int → Int → Int → Option (Int)
 | 0, _, _, _, _ => none
 | k + 1, x3, x6, x7, x8 => if x8 < x7 then (if 0 ≤ x8 then (if x8 < (x6.length : Int) then (impl_sum.l0 k (wrap64 (x3 + (rd x6 x8))) x6 x7 (wrap64 (x8 + 1))) else (none)) else (none)) else (some x3)
def impl_sum.f (k : Nat) (l0 : List Int) : Option (Int) := impl_sum.l0 k 0 l0 (l0.length : Int) 0
theorem impl_sum.mono_l : ∀ k, (∀ y0 y1 y2 y3, LeO (impl_sum.l0 k y0 y1 y2 y3) (impl_sum.l0 (k + 1) y0 y1 y2 y3))
 | 0 => fun _ _ _ _ r h => by simp [impl_sum.l0] at h
 | k + 1 => by
  have ih0 := impl_sum.mono_l k
  ·intro y0 y1 y2 y3
   unfold impl_sum.l0
   repeat' first
   | (with_reducible exact ih0 _ _ _ _)
   | (with_reducible exact LeO.refl _)
   | (with_reducible exact LeO.none _)
   | (with_reducible refine LeO.ite ?_ ?_)
   | (with_reducible refine LeO.bind ?_ (fun _ => ?_))
   | exact ih0 _ _ _ _
   | exact LeO.none _
   | refine LeO.ite ?_ ?_
   | refine LeO.bind ?_ (fun _ => ?_)
theorem impl_sum.mono : ∀ a0 k, LeO (impl_sum.f k a0) (impl_sum.f (k + 1) a0) := by
 intro a0 k
 have ih0 := impl_sum.mono_l k
 unfold impl_sum.f
 repeat' first
   | (with_reducible exact ih0 _ _ _ _)
   | (with_reducible exact LeO.refl _)
   | (with_reducible exact LeO.none _)
   | (with_reducible refine LeO.ite ?_ ?_)
   | (with_reducible refine LeO.bind ?_ (fun _ => ?_))
   | exact ih0 _ _ _ _
   | exact LeO.none _
   | refine LeO.ite ?_ ?_
   | refine LeO.bind ?_ (fun _ => ?_)
set_option maxHeartbeats 8000000 in
set_option maxRecDepth 100000 in
theorem impl_sum.calls (k : Nat) (A0 : Option Addr) (c0 : Nat) (l0 : List Int) (r : Int) (w : World) (hr0 : Kd.C (Kd.int .i64) w A0 l0.length l0) (hc0 : l0.length ≤ c0) (h : impl_sum.f k l0 = some r) :
  Calls Try.prog 113 #[.slice A0 l0.length c0] w fun e w' => e = .returned (.int .i64 r) ∧ Drawn0 w w' := by
 have HR0 := Aside0.mk hr0
 have HC0 := Aside0.mk hc0
 clear hr0 hc0
 have H : (impl_sum.l0 k 0 l0 (l0.length : Int) 0) = some r := h
 clear h
 have H' := Aside0.mk H
 clear H
 go_enter Try.func113, Try.ntmps113
 go_wp2
 go_loopg [3, 8] k (fun kq v3 v8 w' => ∃ (x3_1 : Int) (x8_1 : Int), v3 = .int .i64 x3_1 ∧ v8 = .int .i64 x8_1 ∧ Aside0 (impl_sum.l0 kq x3_1 l0 (l0.length : Int) x8_1 = some r) ∧ Aside0 (kq ≤ k) ∧ Drawn0 w w')
 case atStart => exact ⟨(0), (0), (by first | rfl | (simp; done) | (simp [*]; done)), (by first | rfl | (simp; done) | (simp [*]; done)), H', ⟨Nat.le_refl _⟩, by repeat (first | exact Drawn0.refl _ | apply Drawn0.step)⟩
 case round =>
  clear H'
  try clear c1
  obtain ⟨x3_1, x8_1, rfl, rfl, HA, HK1, ⟨m1, rfl⟩⟩ := hrel
  cases gk with
  | zero => exact absurd HA.out (by simp [impl_sum.l0])
  | succ k1 =>
   have H := HA.out
   clear HA
   simp only [impl_sum.l0] at H
   by_cases c2 : x8_1 < (l0.length : Int)
   ·rw [if_pos c2] at H
    have c2b0 : decide (x8_1 < (l0.length : Int)) = true := decide_eq_true c2
    clear c2
    by_cases c3 : 0 ≤ x8_1
    ·rw [if_pos c3] at H
     have c3b0 : decide (0 ≤ x8_1) = true := decide_eq_true c3
     clear c3
     by_cases c4 : x8_1 < (l0.length : Int)
     ·rw [if_pos c4] at H
      have c4b0 : decide (x8_1 < (l0.length : Int)) = true := decide_eq_true c4
      clear c4
      have H' := Aside0.mk H
      clear H
      have p222 : 0 ≤ (x8_1 : Int) := of_decide_eq_true (by first | (with_reducible assumption) | assumption)
      have q222 : x8_1 < (l0.length : Int) := of_decide_eq_true (by first | (with_reducible assumption) | assumption)
      obtain ⟨ad222, e222, hx222_0⟩ := Kd.at_int HR0.out x8_1 p222 q222
      cases e222
      replace p222 := eq_true p222
      replace q222 := eq_true q222
      go_wp2
      go_roundg k1
      case measure => have := HK1.out; omega
      case rel => exact ⟨(wrap64 (x3_1 + (rd l0 x8_1))), (wrap64 (x8_1 + 1)), (by first | rfl | (simp; done) | (simp [*]; done)), (by first | rfl | (simp; done) | (simp [*]; done)), H', ⟨by have := HK1.out; omega⟩, by repeat (first | exact Drawn0.refl _ | apply Drawn0.step)⟩
     ·rw [if_neg c4] at H
      exact absurd H (by simp)
    ·rw [if_neg c3] at H
     exact absurd H (by simp)
   ·rw [if_neg c2] at H
    have c2b0 : decide (x8_1 < (l0.length : Int)) = false := decide_eq_false c2
    clear c2
    obtain rfl := Option.some.inj H
    go_wp2
    go_ret
    exact ⟨by first | rfl | (simp; done) | (simp [*]; done), by repeat (first | exact Drawn0.refl _ | apply Drawn0.step)⟩

end Go.Proofs.Ytdcdkckpmkfjdaa.P

namespace Go.Proofs.Ytdcdkckpmkfjdaa.P
open Go.RowKit Go.Proofs.YtdcdkckpmkfjdaaW.PrintWords Go.Proofs.YtdcdkckpmkfjdaaW.PrintLast Go.Proofs.YtdcdkckpmkfjdaaW.PrintMore
attribute [local go_sem] max2_int min2_int max_two min_two max_three min_three max_four min_four   -- for this text's walks alone
set_option linter.unusedVariables false
set_option linter.unusedSimpArgs false

mutual
def impl_inversions.l0 : Nat → List (List Int) → Int → List (List Int) → Int → Int → Option (Int)
 | 0, _, _, _, _, _ => none
 | k + 1, x0, x3, x10, x11, x12 => if x12 < x11 then (if 0 ≤ x12 then (if x12 < (x10.length : Int) then (impl_inversions.l1 k x0 x3 x12 x10 x11 x12 (rd_L1 x10 x12) ((rd_L1 x10 x12).length : Int) 0) else (none)) else (none)) else (some x3)
def impl_inversions.l1 : Nat → List (List Int) → Int → Int → List (List Int) → Int → Int → List Int → Int → Int → Option (Int)
 | 0, _, _, _, _, _, _, _, _, _ => none
 | k + 1, x0, x3, x4, x10, x11, x12, x17, x18, x19 => if x19 < x18 then (if 0 ≤ x19 then (if x19 < (x17.length : Int) then (if 0 ≤ (wrap64 (x4 + 1)) then (if (wrap64 (x4 + 1)) ≤ (x0.length : Int) then ((some (x0.drop ((wrap64 (x4 + 1)) : Int).toNat : List (List Int))).bind fun y225 => (impl_inversions.l2 k x0 x3 x4 x19 (rd x17 x19) x10 x11 x12 x17 x18 x19 y225 (y225.length : Int) 0)) else (none)) else (none)) else (none)) else (none)) else (impl_inversions.l0 k x0 x3 x10 x11 (wrap64 (x12 + 1)))
def impl_inversions.l2 : Nat → List (List Int) → Int → Int → Int → Int → List (List Int) → Int → Int → List Int → Int → Int → List (List Int) → Int → Int → Option (Int)
 | 0, _, _, _, _, _, _, _, _, _, _, _, _, _, _ => none
 | k + 1, x0, x3, x4, x6, x7, x10, x11, x12, x17, x18, x19, x27, x28, x29 => if x29 < x28 then (if 0 ≤ x29 then (if x29 < (x27.length : Int) then (if 0 ≤ x6 then (if x6 ≤ ((rd_L1 x27 x29).length : Int) then ((impl_sum.f k ((rd_L1 x27 x29).take (x6 : Int).toNat)).bind fun t231 => (impl_inversions.l2 k x0 (wrap64 (x3 + (wrap64 (x7 * t231)))) x4 x6 x7 x10 x11 x12 x17 x18 x19 x27 x28 (wrap64 (x29 + 1)))) else (none)) else (none)) else (none)) else (none)) else (impl_inversions.l1 k x0 x3 x4 x10 x11 x12 x17 x18 (wrap64 (x19 + 1)))
end
def impl_inversions.f (k : Nat) (l0 : List (List Int)) : Option (Int) := impl_inversions.l0 k l0 0 l0 (l0.length : Int) 0
theorem impl_inversions.mono_l : ∀ k, (∀ y0 y1 y2 y3 y4, LeO (impl_inversions.l0 k y0 y1 y2 y3 y4) (impl_inversions.l0 (k + 1) y0 y1 y2 y3 y4)) ∧ (∀ y0 y1 y2 y3 y4 y5 y6 y7 y8, LeO (impl_inversions.l1 k y0 y1 y2 y3 y4 y5 y6 y7 y8) (impl_inversions.l1 (k + 1) y0 y1 y2 y3 y4 y5 y6 y7 y8)) ∧ (∀ y0 y1 y2 y3 y4 y5 y6 y7 y8 y9 y10 y11 y12 y13, LeO (impl_inversions.l2 k y0 y1 y2 y3 y4 y5 y6 y7 y8 y9 y10 y11 y12 y13) (impl_inversions.l2 (k + 1) y0 y1 y2 y3 y4 y5 y6 y7 y8 y9 y10 y11 y12 y13))
 | 0 => ⟨fun _ _ _ _ _ r h => by simp [impl_inversions.l0] at h, fun _ _ _ _ _ _ _ _ _ r h => by simp [impl_inversions.l1] at h, fun _ _ _ _ _ _ _ _ _ _ _ _ _ _ r h => by simp [impl_inversions.l2] at h⟩
 | k + 1 => by
  obtain ⟨ih0, ih1, ih2⟩ := impl_inversions.mono_l k
  refine ⟨?_, ?_, ?_⟩
  ·intro y0 y1 y2 y3 y4
   unfold impl_inversions.l0
   repeat' first
   | (with_reducible exact ih0 _ _ _ _ _)
   | (with_reducible exact ih1 _ _ _ _ _ _ _ _ _)
   | (with_reducible exact ih2 _ _ _ _ _ _ _ _ _ _ _ _ _ _)
   | (with_reducible exact impl_sum.mono _ _)
   | (with_reducible exact LeO.refl _)
   | (with_reducible exact LeO.none _)
   | (with_reducible refine LeO.ite ?_ ?_)
   | (with_reducible refine LeO.bind ?_ (fun _ => ?_))
   | exact ih0 _ _ _ _ _
   | exact ih1 _ _ _ _ _ _ _ _ _
   | exact ih2 _ _ _ _ _ _ _ _ _ _ _ _ _ _
   | exact impl_sum.mono _ _
   | exact LeO.none _
   | refine LeO.ite ?_ ?_
   | refine LeO.bind ?_ (fun _ => ?_)
  ·intro y0 y1 y2 y3 y4 y5 y6 y7 y8
   unfold impl_inversions.l1
   repeat' first
   | (with_reducible exact ih0 _ _ _ _ _)
   | (with_reducible exact ih1 _ _ _ _ _ _ _ _ _)
   | (with_reducible exact ih2 _ _ _ _ _ _ _ _ _ _ _ _ _ _)
   | (with_reducible exact impl_sum.mono _ _)
   | (with_reducible exact LeO.refl _)
   | (with_reducible exact LeO.none _)
   | (with_reducible refine LeO.ite ?_ ?_)
   | (with_reducible refine LeO.bind ?_ (fun _ => ?_))
   | exact ih0 _ _ _ _ _
   | exact ih1 _ _ _ _ _ _ _ _ _
   | exact ih2 _ _ _ _ _ _ _ _ _ _ _ _ _ _
   | exact impl_sum.mono _ _
   | exact LeO.none _
   | refine LeO.ite ?_ ?_
   | refine LeO.bind ?_ (fun _ => ?_)
  ·intro y0 y1 y2 y3 y4 y5 y6 y7 y8 y9 y10 y11 y12 y13
   unfold impl_inversions.l2
   repeat' first
   | (with_reducible exact ih0 _ _ _ _ _)
   | (with_reducible exact ih1 _ _ _ _ _ _ _ _ _)
   | (with_reducible exact ih2 _ _ _ _ _ _ _ _ _ _ _ _ _ _)
   | (with_reducible exact impl_sum.mono _ _)
   | (with_reducible exact LeO.refl _)
   | (with_reducible exact LeO.none _)
   | (with_reducible refine LeO.ite ?_ ?_)
   | (with_reducible refine LeO.bind ?_ (fun _ => ?_))
   | exact ih0 _ _ _ _ _
   | exact ih1 _ _ _ _ _ _ _ _ _
   | exact ih2 _ _ _ _ _ _ _ _ _ _ _ _ _ _
   | exact impl_sum.mono _ _
   | exact LeO.none _
   | refine LeO.ite ?_ ?_
   | refine LeO.bind ?_ (fun _ => ?_)
theorem impl_inversions.mono : ∀ a0 k, LeO (impl_inversions.f k a0) (impl_inversions.f (k + 1) a0) := by
 intro a0 k
 obtain ⟨ih0, ih1, ih2⟩ := impl_inversions.mono_l k
 unfold impl_inversions.f
 repeat' first
   | (with_reducible exact ih0 _ _ _ _ _)
   | (with_reducible exact ih1 _ _ _ _ _ _ _ _ _)
   | (with_reducible exact ih2 _ _ _ _ _ _ _ _ _ _ _ _ _ _)
   | (with_reducible exact impl_sum.mono _ _)
   | (with_reducible exact LeO.refl _)
   | (with_reducible exact LeO.none _)
   | (with_reducible refine LeO.ite ?_ ?_)
   | (with_reducible refine LeO.bind ?_ (fun _ => ?_))
   | exact ih0 _ _ _ _ _
   | exact ih1 _ _ _ _ _ _ _ _ _
   | exact ih2 _ _ _ _ _ _ _ _ _ _ _ _ _ _
   | exact impl_sum.mono _ _
   | exact LeO.none _
   | refine LeO.ite ?_ ?_
   | refine LeO.bind ?_ (fun _ => ?_)
set_option maxHeartbeats 8000000 in
set_option maxRecDepth 100000 in
theorem impl_inversions.calls (k : Nat) (A0 : Option Addr) (c0 : Nat) (l0 : List (List Int)) (r : Int) (w : World) (hr0 : Kd.C (Kd.slice 3 (Kd.int .i64)) w A0 l0.length l0) (hc0 : l0.length ≤ c0) (h : impl_inversions.f k l0 = some r) :
  Calls Try.prog 65 #[.slice A0 l0.length c0] w fun e w' => e = .returned (.int .i64 r) ∧ Drawn0 w w' := by
 have HR0 := Aside0.mk hr0
 have HC0 := Aside0.mk hc0
 clear hr0 hc0
 have H : (impl_inversions.l0 k l0 0 l0 (l0.length : Int) 0) = some r := h
 clear h
 have H' := Aside0.mk H
 clear H
 go_enter Try.func65, Try.ntmps65
 go_wp2
 go_loopg [3, 12] k (fun kq v3 v12 w' => ∃ (x3_1 : Int) (x12_1 : Int), v3 = .int .i64 x3_1 ∧ v12 = .int .i64 x12_1 ∧ Aside0 (impl_inversions.l0 kq l0 x3_1 l0 (l0.length : Int) x12_1 = some r) ∧ Aside0 (kq ≤ k) ∧ Drawn0 w w')
 case atStart => exact ⟨(0), (0), (by first | rfl | (simp; done) | (simp [*]; done)), (by first | rfl | (simp; done) | (simp [*]; done)), H', ⟨Nat.le_refl _⟩, by repeat (first | exact Drawn0.refl _ | apply Drawn0.step)⟩
 case round =>
  clear H'
  obtain ⟨x3_1, x12_1, rfl, rfl, HA, HK1, ⟨m1, rfl⟩⟩ := hrel
  cases gk with
  | zero => exact absurd HA.out (by simp [impl_inversions.l0])
  | succ k1 =>
   have H := HA.out
   clear HA
   simp only [impl_inversions.l0] at H
   by_cases c2 : x12_1 < (l0.length : Int)
   ·rw [if_pos c2] at H
    have c2b0 : decide (x12_1 < (l0.length : Int)) = true := decide_eq_true c2
    clear c2
    by_cases c3 : 0 ≤ x12_1
    ·rw [if_pos c3] at H
     have c3b0 : decide (0 ≤ x12_1) = true := decide_eq_true c3
     clear c3
     by_cases c4 : x12_1 < (l0.length : Int)
     ·rw [if_pos c4] at H
      have c4b0 : decide (x12_1 < (l0.length : Int)) = true := decide_eq_true c4
      clear c4
      have H' := Aside0.mk H
      clear H
      have p223 : 0 ≤ (x12_1 : Int) := of_decide_eq_true (by first | (with_reducible assumption) | assumption)
      have q223 : x12_1 < (l0.length : Int) := of_decide_eq_true (by first | (with_reducible assumption) | assumption)
      obtain ⟨ad223, A223_0, c223_0, e223, hx223_0, hl223_0, hi223_0⟩ := at_L1 HR0.out x12_1 p223 q223
      cases e223
      have HR223_0 := Aside0.mk hi223_0
      have HC223_0 := Aside0.mk hl223_0
      clear hi223_0 hl223_0
      replace p223 := eq_true p223
      replace q223 := eq_true q223
      go_wp2
      go_loopg [3, 19] k1 (fun kq v3 v19 w' => ∃ (x3_2 : Int) (x19_2 : Int), v3 = .int .i64 x3_2 ∧ v19 = .int .i64 x19_2 ∧ Aside0 (impl_inversions.l1 kq l0 x3_2 x12_1 l0 (l0.length : Int) x12_1 (rd_L1 l0 x12_1) ((rd_L1 l0 x12_1).length : Int) x19_2 = some r) ∧ Aside0 (kq ≤ k1) ∧ Drawn0 w w')
      case atStart => exact ⟨(x3_1), (0), (by first | rfl | (simp; done) | (simp [*]; done)), (by first | rfl | (simp; done) | (simp [*]; done)), H', ⟨Nat.le_refl _⟩, by repeat (first | exact Drawn0.refl _ | apply Drawn0.step)⟩
      case round =>
       clear H'
       try clear c2
       try clear c2b0
       try clear p2
       try clear q2
       try clear hx2
       try clear c3
       try clear c3b0
       try clear c4
       try clear c4b0
       try clear hx223_0
       try clear p223
       try clear q223
       obtain ⟨x3_2, x19_2, rfl, rfl, HA, HK2, ⟨m2, rfl⟩⟩ := hrel
       cases gk with
       | zero => exact absurd HA.out (by simp [impl_inversions.l1])
       | succ k2 =>
        have H := HA.out
        clear HA
        simp only [impl_inversions.l1] at H
        by_cases c5 : x19_2 < ((rd_L1 l0 x12_1).length : Int)
        ·rw [if_pos c5] at H
         have c5b0 : decide (x19_2 < ((rd_L1 l0 x12_1).length : Int)) = true := decide_eq_true c5
         clear c5
         by_cases c6 : 0 ≤ x19_2
         ·rw [if_pos c6] at H
          have c6b0 : decide (0 ≤ x19_2) = true := decide_eq_true c6
          clear c6
          by_cases c7 : x19_2 < ((rd_L1 l0 x12_1).length : Int)
          ·rw [if_pos c7] at H
           have c7b0 : decide (x19_2 < ((rd_L1 l0 x12_1).length : Int)) = true := decide_eq_true c7
           clear c7
           obtain ⟨ji8, hji8⟩ : ∃ j_ : Int, (wrap64 (x12_1 + 1)) = j_ := ⟨_, rfl⟩
           replace H : (if 0 ≤ (ji8) then (if (ji8) ≤ (l0.length : Int) then ((some (l0.drop ((ji8) : Int).toNat : List (List Int))).bind fun y225 => (impl_inversions.l2 k2 l0 x3_2 x12_1 x19_2 (rd (rd_L1 l0 x12_1) x19_2) l0 (l0.length : Int) x12_1 (rd_L1 l0 x12_1) ((rd_L1 l0 x12_1).length : Int) x19_2 y225 (y225.length : Int) 0)) else (none)) else (none)) = some r := by first | (rw [hji8] at H; exact H) | (simp only [hji8] at H ⊢; exact H)
           have hji8w : (IntKind.i64.wrap (x12_1 + 1)) = ji8 := (i64_w _).trans hji8
           by_cases c9 : 0 ≤ (ji8)
           ·rw [if_pos c9] at H
            have c9b0 := eq_true c9
            have c9b1 : decide (0 ≤ (ji8)) = true := decide_eq_true c9
            clear c9
            by_cases c10 : (ji8) ≤ (l0.length : Int)
            ·rw [if_pos c10] at H
             have c10b0 := eq_true c10
             have c10b1 : decide ((ji8) ≤ (l0.length : Int)) = true := decide_eq_true c10
             clear c10
             obtain ⟨y225, hy225⟩ : ∃ y_ : List (List Int), y_ = (l0.drop ((ji8) : Int).toNat) := ⟨_, rfl⟩
             replace H : (impl_inversions.l2 k2 l0 x3_2 x12_1 x19_2 (rd (rd_L1 l0 x12_1) x19_2) l0 (l0.length : Int) x12_1 (rd_L1 l0 x12_1) ((rd_L1 l0 x12_1).length : Int) x19_2 y225 (y225.length : Int) 0) = some r := by first | (rw [hy225]; with_reducible exact H) | (have H2_ := (Option.bind_some _ _).symm.trans H; rw [hy225]; with_reducible exact H2_) | (have H2_ := (Option.bind_some _ _).symm.trans H; with_reducible exact H2_) | with_reducible exact H | (rw [hy225]; exact H) | exact H
             have Ny225 := Aside0.mk hy225
             clear hy225
             have H' := Aside0.mk H
             clear H
             have p224 : 0 ≤ (x19_2 : Int) := of_decide_eq_true (by first | (with_reducible assumption) | assumption)
             have q224 : x19_2 < ((rd_L1 l0 x12_1).length : Int) := of_decide_eq_true (by first | (with_reducible assumption) | assumption)
             obtain ⟨ad224, e224, hx224_0⟩ := Kd.at_int HR223_0.out x19_2 p224 q224
             cases e224
             replace p224 := eq_true p224
             replace q224 := eq_true q224
             have q11 : ((ji8) : Int) ≤ ((l0.length : Int) : Int) := of_decide_eq_true (by first | (with_reducible assumption) | assumption)
             obtain ⟨i011, hi011, _, hsz11, _⟩ := info_parts info22
             have hroom11 : l0.length ≤ c0 := HC0.out
             have hC11 : Kd.C (Kd.slice 3 (Kd.int .i64)) _ (some ad223) l0.length l0 := HR0.out
             have q011 : (0 : Int) ≤ ((ji8) : Int) := of_decide_eq_true (by first | (with_reducible assumption) | assumption)
             have hcut11 := cut_from (P := Try.prog) 36 22 .i64 Try.underlying36 hi011 1 hsz11 (some ad223) l0.length c0 (ji8) q011 q11
             have hr11 := Kd.C_drop (m := ((ji8) : Int).toNat) (c := c0) hC11 (by omega) hroom11
             obtain ⟨A11, hA11⟩ : ∃ A1, A1 = (if c0 = ((ji8) : Int).toNat then (some ad223) else ((some ad223) : Option Addr).map (·.add (((ji8) : Int).toNat * 1))) := ⟨_, rfl⟩
             obtain ⟨c11, hc11⟩ : ∃ c1, c1 = c0 - ((ji8) : Int).toNat := ⟨_, rfl⟩
             have hy11 : y225.length = l0.length - ((ji8) : Int).toNat := (by rw [Ny225.out, List.length_drop] <;> omega)
             rw [show (l0).drop ((ji8) : Int).toNat = y225 from Ny225.out.symm] at hr11
             replace hr11 : Kd.C (Kd.slice 3 (Kd.int .i64)) _ A11 y225.length y225 := (by rw [hA11]; exact hr11)
             rw [← hy11, ← hA11, ← hc11] at hcut11
             have HR228 := Aside0.mk hr11
             have HC228 := Aside0.mk (show y225.length ≤ c11 from by rw [hy11, hc11]; exact Nat.sub_le_sub_right hroom11 _)
             clear hr11 hC11 hroom11 hi011 hsz11 hc11
             have KY11 := Aside0.mk hy11
             have KA11 := Aside0.mk hA11
             clear hy11 hA11
             replace q11 := eq_true q11
             go_wp2
             go_loopg [3, 29] k2 (fun kq v3 v29 w' => ∃ (x3_3 : Int) (x29_3 : Int), v3 = .int .i64 x3_3 ∧ v29 = .int .i64 x29_3 ∧ Aside0 (impl_inversions.l2 kq l0 x3_3 x12_1 x19_2 (rd (rd_L1 l0 x12_1) x19_2) l0 (l0.length : Int) x12_1 (rd_L1 l0 x12_1) ((rd_L1 l0 x12_1).length : Int) x19_2 y225 (y225.length : Int) x29_3 = some r) ∧ Aside0 (kq ≤ k2) ∧ Drawn0 w w')
             case atStart => exact ⟨(x3_2), (0), (by first | rfl | (simp; done) | (simp [*]; done)), (by first | rfl | (simp; done) | (simp [*]; done)), H', ⟨Nat.le_refl _⟩, by repeat (first | exact Drawn0.refl _ | apply Drawn0.step)⟩
             case round =>
              clear H'
              try clear c1
              try clear q1
              try clear c2
              try clear c2b0
              try clear p2
              try clear q2
              try clear hx2
              try clear c3
              try clear c3b0
              try clear c4
              try clear c4b0
              try clear c5
              try clear c5b0
              try clear c6
              try clear c6b0
              try clear p6
              try clear c7
              try clear c7b0
              try clear c9
              try clear c9b0
              try clear c9b1
              try clear c10
              try clear c10b0
              try clear c10b1
              try clear c11
              try clear q11
              try clear hx223_0
              try clear hx224_0
              try clear p2
              try clear p223
              try clear p224
              try clear q011
              try clear q11
              try clear q2
              try clear q223
              try clear q224
              obtain ⟨x3_3, x29_3, rfl, rfl, HA, HK3, ⟨m3, rfl⟩⟩ := hrel
              cases gk with
              | zero => exact absurd HA.out (by simp [impl_inversions.l2])
              | succ k3 =>
               have H := HA.out
               clear HA
               simp only [impl_inversions.l2] at H
               by_cases c12 : x29_3 < (y225.length : Int)
               ·rw [if_pos c12] at H
                have c12b0 : decide (x29_3 < (y225.length : Int)) = true := decide_eq_true c12
                clear c12
                by_cases c13 : 0 ≤ x29_3
                ·rw [if_pos c13] at H
                 have c13b0 : decide (0 ≤ x29_3) = true := decide_eq_true c13
                 clear c13
                 by_cases c14 : x29_3 < (y225.length : Int)
                 ·rw [if_pos c14] at H
                  have c14b0 : decide (x29_3 < (y225.length : Int)) = true := decide_eq_true c14
                  clear c14
                  by_cases c15 : 0 ≤ x19_2
                  ·rw [if_pos c15] at H
                   have c15b0 := eq_true c15
                   have c15b1 : decide (0 ≤ x19_2) = true := decide_eq_true c15
                   clear c15
                   by_cases c16 : x19_2 ≤ ((rd_L1 y225 x29_3).length : Int)
                   ·rw [if_pos c16] at H
                    have c16b0 := eq_true c16
                    have c16b1 : decide (x19_2 ≤ ((rd_L1 y225 x29_3).length : Int)) = true := decide_eq_true c16
                    clear c16
                    replace H := Option.bind_eq_some_iff.mp H
                    obtain ⟨t231, A170, H⟩ := H
                    replace H : (impl_inversions.l2 k3 l0 (wrap64 (x3_3 + (wrap64 ((rd (rd_L1 l0 x12_1) x19_2) * t231)))) x12_1 x19_2 (rd (rd_L1 l0 x12_1) x19_2) l0 (l0.length : Int) x12_1 (rd_L1 l0 x12_1) ((rd_L1 l0 x12_1).length : Int) x19_2 y225 (y225.length : Int) (wrap64 (x29_3 + 1))) = some r := H
                    have A17 := Aside0.mk A170
                    clear A170
                    have H' := Aside0.mk H
                    clear H
                    have p229 : 0 ≤ (x29_3 : Int) := of_decide_eq_true (by first | (with_reducible assumption) | assumption)
                    have q229 : x29_3 < (y225.length : Int) := of_decide_eq_true (by first | (with_reducible assumption) | assumption)
                    obtain ⟨ad229, A229_0, c229_0, e229, hx229_0, hl229_0, hi229_0⟩ := at_L1 HR228.out x29_3 p229 q229
                    cases e229
                    have HR229_0 := Aside0.mk hi229_0
                    have HC229_0 := Aside0.mk hl229_0
                    clear hi229_0 hl229_0
                    replace p229 := eq_true p229
                    replace q229 := eq_true q229
                    obtain ⟨i018, hi018, _, hsz18, _⟩ := info_parts info3
                    obtain ⟨hcut18, hA18, hC18⟩ := print_take_of (P := Try.prog) (Value.int .i64) 0 22 3 .i64 Try.underlying22 hi018 hsz18 A229_0 c229_0 (rd_L1 y225 x29_3) x19_2 (of_decide_eq_true (by first | (with_reducible assumption) | assumption)) (of_decide_eq_true (by first | (with_reducible assumption) | assumption)) HC229_0.out
                    have HR230 := Aside0.mk (Kd.C_of_reads (h1 := fun _ => rfl) (hA18 _ (Kd.reads_of_C HR229_0.out)))
                    have HC230 := Aside0.mk hC18
                    clear hA18 hC18 hi018 hsz18
                    go_wp2_with (first | ((with_reducible refine gate_callee (f := 113) rfl ?_); refine goesL_ (some 38) rfl rfl Try.func113 (by kernel_rfl) rfl #[.slice A229_0 ((rd_L1 y225 x29_3).take (x19_2 : Int).toNat).length c229_0] rfl (by (try simp only [List.map_toArray, List.map_cons, List.map_nil]); first | done | (rw [show ((rd_L1 y225 x29_3).take (x19_2 : Int).toNat).length = x19_2.toNat from (by rw [List.length_take]; have h_ : (x19_2 : Int) ≤ ((rd_L1 y225 x29_3).length : Int) := of_decide_eq_true (by first | (with_reducible assumption) | assumption); omega)] <;> rfl) | rfl | (simp only [List.length_drop, List.length_take]; rfl)) ?_; (with_reducible refine (impl_sum.calls k3 _ _ ((rd_L1 y225 x29_3).take (x19_2 : Int).toNat) t231 _ ?side1 ?side2 A17.out).mono ?_); (case side1 => repeat (first | exact HR230.out | (with_reducible refine Kd.C_alloc ?_ _) | (with_reducible refine Kd.C_drewN ?_ _) | (with_reducible refine Kd.C_drew ?_))); (case side2 => exact HC230.out); rintro e w' ⟨rfl, ⟨nd, rfl⟩⟩; refine ⟨_, rfl, ?_⟩))
                    go_roundg k3
                    case measure => have := HK1.out; have := HK2.out; have := HK3.out; omega
                    case rel => exact ⟨(wrap64 (x3_3 + (wrap64 ((rd (rd_L1 l0 x12_1) x19_2) * t231)))), (wrap64 (x29_3 + 1)), (by first | rfl | (simp; done) | (simp [*]; done)), (by first | rfl | (simp; done) | (simp [*]; done)), H', ⟨by have := HK1.out; have := HK2.out; have := HK3.out; omega⟩, by repeat (first | exact Drawn0.refl _ | apply Drawn0.step)⟩
                   ·rw [if_neg c16] at H
                    exact absurd H (by simp)
                  ·rw [if_neg c15] at H
                   exact absurd H (by simp)
                 ·rw [if_neg c14] at H
                  exact absurd H (by simp)
                ·rw [if_neg c13] at H
                 exact absurd H (by simp)
               ·rw [if_neg c12] at H
                have c12b0 : decide (x29_3 < (y225.length : Int)) = false := decide_eq_false c12
                clear c12
                have H' := Aside0.mk H
                clear H
                go_wp2
                go_roundg k3
                case measure => have := HK1.out; have := HK2.out; have := HK3.out; omega
                case rel => exact ⟨(x3_3), (wrap64 (x19_2 + 1)), (by first | rfl | (simp; done) | (simp [*]; done)), (by first | rfl | (simp; done) | (simp [*]; done)), H', ⟨by have := HK1.out; have := HK2.out; have := HK3.out; omega⟩, by repeat (first | exact Drawn0.refl _ | apply Drawn0.step)⟩
            ·rw [if_neg c10] at H
             exact absurd H (by simp)
           ·rw [if_neg c9] at H
            exact absurd H (by simp)
          ·rw [if_neg c7] at H
           exact absurd H (by simp)
         ·rw [if_neg c6] at H
          exact absurd H (by simp)
        ·rw [if_neg c5] at H
         have c5b0 : decide (x19_2 < ((rd_L1 l0 x12_1).length : Int)) = false := decide_eq_false c5
         clear c5
         have H' := Aside0.mk H
         clear H
         go_wp2
         go_roundg k2
         case measure => have := HK1.out; have := HK2.out; omega
         case rel => exact ⟨(x3_2), (wrap64 (x12_1 + 1)), (by first | rfl | (simp; done) | (simp [*]; done)), (by first | rfl | (simp; done) | (simp [*]; done)), H', ⟨by have := HK1.out; have := HK2.out; omega⟩, by repeat (first | exact Drawn0.refl _ | apply Drawn0.step)⟩
     ·rw [if_neg c4] at H
      exact absurd H (by simp)
    ·rw [if_neg c3] at H
     exact absurd H (by simp)
   ·rw [if_neg c2] at H
    have c2b0 : decide (x12_1 < (l0.length : Int)) = false := decide_eq_false c2
    clear c2
    obtain rfl := Option.some.inj H
    go_wp2
    go_ret
    exact ⟨by first | rfl | (simp; done) | (simp [*]; done), by repeat (first | exact Drawn0.refl _ | apply Drawn0.step)⟩

end Go.Proofs.Ytdcdkckpmkfjdaa.P

namespace Go.Proofs.Ytdcdkckpmkfjdaa
open Go.RowKit Go.Proofs.Ytdcdkckpmkfjdaa.P Go.Proofs.Ytdcdkckpmkfjdaa.L Go.Proofs.YtdcdkckpmkfjdaaW.PrintWords Go.Proofs.YtdcdkckpmkfjdaaW.PrintLast Go.Proofs.YtdcdkckpmkfjdaaW.PrintMore
set_option linter.unusedVariables false
set_option maxRecDepth 100000

def inV (T : List (List Int)) : Int := (impl_inversions.f 100 T).getD 0
def tyX (ofv : List (List Int) → Int) (n : Nat) (least : Nat) : List Int := csOf ofv (esX n) (List.replicate least 0) (esX n).length
def impl_tally_at_impl_inversions.f (a0 a1 : Int) (u : Unit) : Option (List Int) := if (1 ≤ a0 ∧ a0 ≤ 4) ∧ (0 ≤ a1 ∧ a1 ≤ 1000) ∧ ((esX a0.toNat).all fun T => (impl_inversions.f 100 T).isSome) = true ∧ csOk inV (esX a0.toNat) (List.replicate a1.toNat 0) = true then some (tyX inV a0.toNat a1.toNat) else none
theorem impl_tally_at_impl_inversions.calls (a0 : Int) (a1 : Int) (a2 : Unit) (r : List Int) (w : World) (h : impl_tally_at_impl_inversions.f a0 a1 a2 = some r) :
  Calls Try.prog 62 #[.int .i64 a0, .int .i64 a1, .func (.func 65) #[] #[]] w fun e w' => ∃ v0_ : Value, e = .returned (v0_) ∧ Kd.R (Kd.int .i64) 3 w' w.heap.size (fun _ => True) v0_ r ∧ Below w.heap.size w w' := by
 unfold impl_tally_at_impl_inversions.f at h
 split at h
 case isFalse => cases h
 rename_i hb
 obtain rfl := Option.some.inj h
 obtain ⟨n, rfl⟩ := Int.eq_ofNat_of_zero_le (show 0 ≤ a0 by omega)
 obtain ⟨m, rfl⟩ := Int.eq_ofNat_of_zero_le hb.2.1.1
 simp only [Int.toNat_natCast] at hb ⊢
 refine impl_tally.callsG n m 65 #[] (csOf inV (esX n) (List.replicate m 0)) (esX n) inV (by omega) (eachSigns_all (by omega) (by omega)) (enters_of Try.func65 (by kernel_rfl) rfl) w ?_ (by cases hq : esX n <;> rfl) (csOk_step inV _ _ hb.2.2.2)
 intro T A c W hT _ hC hc
 obtain ⟨v, hv⟩ := Option.isSome_iff_exists.1 (List.all_eq_true.1 hb.2.2.1 T hT)
 have e : inV T = v := by unfold inV; rw [hv]; rfl
 rw [e]
 exact (impl_inversions.calls 100 A c T v W hC hc hv).mono fun e w' h => ⟨h.1, h.2.below⟩
end Go.Proofs.Ytdcdkckpmkfjdaa

namespace Go.Proofs.Ytdcdkckpmkfjdaa.P
open Go.RowKit Go.Proofs.YtdcdkckpmkfjdaaW.PrintWords Go.Proofs.YtdcdkckpmkfjdaaW.PrintLast Go.Proofs.YtdcdkckpmkfjdaaW.PrintMore
attribute [local go_sem] max2_int min2_int max_two min_two max_three min_three max_four min_four   -- for this text's walks alone
set_option linter.unusedVariables false
set_option linter.unusedSimpArgs false

def impl_isWeighted.f (a0 : Int) : Option (Bool) := (impl_within.f a0 1 4).bind fun t167 => (some t167)
set_option maxHeartbeats 8000000 in
set_option maxRecDepth 100000 in
theorem impl_isWeighted.calls (a0 : Int) (r : Bool) (w : World) (h : impl_isWeighted.f a0 = some r) :
  Calls Try.prog 61 #[.int .i64 a0] w fun e w' => e = .returned (.bool r) ∧ Drawn0 w w' := by
 have H : ((impl_within.f a0 1 4).bind fun t167 => (some t167)) = some r := h
 clear h
 replace H := Option.bind_eq_some_iff.mp H
 obtain ⟨t167, A20, H⟩ := H
 replace H : (some t167) = some r := H
 have A2 := Aside0.mk A20
 clear A20
 obtain rfl := Option.some.inj H
 go_enter Try.func61, Try.ntmps61
 go_wp2_with (first | ((with_reducible refine gate_callee (f := 93) rfl ?_); refine goesL_ (some 4) rfl rfl Try.func93 (by kernel_rfl) rfl #[.int .i64 a0, .int .i64 1, .int .i64 4] rfl (by (try simp only [List.map_toArray, List.map_cons, List.map_nil]); first | done | rfl | (simp only [List.length_drop, List.length_take]; rfl)) ?_; (with_reducible refine (impl_within.calls a0 1 4 t167 _ A2.out).mono ?_); rintro e w' ⟨rfl, ⟨nd, rfl⟩⟩; refine ⟨_, rfl, ?_⟩))
 go_ret
 exact ⟨by first | rfl | (simp; done) | (simp [*]; done), by repeat (first | exact Drawn0.refl _ | apply Drawn0.step)⟩

end Go.Proofs.Ytdcdkckpmkfjdaa.P

namespace Go.Proofs.Ytdcdkckpmkfjdaa.L
open Go.RowKit Go.Proofs.Ytdcdkckpmkfjdaa Go.Proofs.Ytdcdkckpmkfjdaa.P Go.Proofs.YtdcdkckpmkfjdaaW.PrintWords Go.Proofs.YtdcdkckpmkfjdaaW.PrintLast Go.Proofs.YtdcdkckpmkfjdaaW.PrintMore
set_option linter.unusedVariables false
set_option linter.unusedSimpArgs false
set_option maxRecDepth 100000

def itA (n : Int) : List Int := if inB n 1 4 = true then tyX inV n.toNat (n.toNat * (n.toNat - 1) / 2 + 1) else []
theorem itA_out {n : Int} (h : inB n 1 4 = false) : itA n = [] := by unfold itA; rw [h]; rfl
theorem it_f : impl_tally_at_impl_inversions.f 1 1 () = some (itA 1) ∧ impl_tally_at_impl_inversions.f 2 2 () = some (itA 2) ∧ impl_tally_at_impl_inversions.f 3 4 () = some (itA 3) ∧ impl_tally_at_impl_inversions.f 4 7 () = some (itA 4) := by decide +kernel
theorem it_c1 (W : World) : Calls Try.prog 62 #[.int .i64 1, .int .i64 1, .func (.func 65) #[] #[]] W fun e w' => ∃ v0_ : Value, e = .returned (v0_) ∧ Kd.R (Kd.int .i64) 3 w' W.heap.size (fun _ => True) v0_ (itA 1) ∧ Below W.heap.size W w' := by
 have h := it_f.1
 generalize itA 1 = r at h ⊢
 exact impl_tally_at_impl_inversions.calls 1 1 () r W h
theorem it_c2 (W : World) : Calls Try.prog 62 #[.int .i64 2, .int .i64 2, .func (.func 65) #[] #[]] W fun e w' => ∃ v0_ : Value, e = .returned (v0_) ∧ Kd.R (Kd.int .i64) 3 w' W.heap.size (fun _ => True) v0_ (itA 2) ∧ Below W.heap.size W w' := by
 have h := it_f.2.1
 generalize itA 2 = r at h ⊢
 exact impl_tally_at_impl_inversions.calls 2 2 () r W h
theorem it_c3 (W : World) : Calls Try.prog 62 #[.int .i64 3, .int .i64 4, .func (.func 65) #[] #[]] W fun e w' => ∃ v0_ : Value, e = .returned (v0_) ∧ Kd.R (Kd.int .i64) 3 w' W.heap.size (fun _ => True) v0_ (itA 3) ∧ Below W.heap.size W w' := by
 have h := it_f.2.2.1
 generalize itA 3 = r at h ⊢
 exact impl_tally_at_impl_inversions.calls 3 4 () r W h
theorem it_c4 (W : World) : Calls Try.prog 62 #[.int .i64 4, .int .i64 7, .func (.func 65) #[] #[]] W fun e w' => ∃ v0_ : Value, e = .returned (v0_) ∧ Kd.R (Kd.int .i64) 3 w' W.heap.size (fun _ => True) v0_ (itA 4) ∧ Below W.heap.size W w' := by
 have h := it_f.2.2.2
 generalize itA 4 = r at h ⊢
 exact impl_tally_at_impl_inversions.calls 4 7 () r W h
theorem one_four {n : Int} (h : inB n 1 4 = true) : n = 1 ∨ n = 2 ∨ n = 3 ∨ n = 4 := by obtain ⟨h0, h1⟩ := inB_true h; omega
set_option maxHeartbeats 2000000 in
theorem impl_InversionTable_calls (n : Int) (w : World) : Calls Try.prog 23 #[.int .i64 n] w (RetTR w (itA n) (inB n 1 4)) := by
 have hw := fun W => impl_isWeighted.calls n (inB n 1 4) W rfl
 cases hi : inB n 1 4 with
 | false =>
  rw [hi] at hw
  rw [itA_out hi]
  clear hi
  go_enter Try.func23, Try.ntmps23
  go_wp2_with (go_at_call 61; refine (hw _).mono ?_; rintro e w1 ⟨rfl, hd⟩; have hb := hd.below; clear hd)
  go_ret2
  exact ⟨_, rfl, Kd.R_nil _ _ _ _ _, hb⟩
 | true =>
  rw [hi] at hw
  have HC1 := Aside0.mk (fun W => it_c1 W)
  have HC2 := Aside0.mk (fun W => it_c2 W)
  have HC3 := Aside0.mk (fun W => it_c3 W)
  have HC4 := Aside0.mk (fun W => it_c4 W)
  rcases one_four hi with rfl | rfl | rfl | rfl
  all_goals
   clear hi
   go_enter Try.func23, Try.ntmps23
   go_wp2_with (first | (go_at_call 61; refine (hw _).mono ?_; rintro e w1 ⟨rfl, hd⟩; have HB := Aside0.mk hd.below; clear hd) | (go_at_call 62; (first | with_reducible refine (HC1.out _).mono ?_ | with_reducible refine (HC2.out _).mono ?_ | with_reducible refine (HC3.out _).mono ?_ | with_reducible refine (HC4.out _).mono ?_); rintro e w2 ⟨v, rfl, hR, hb⟩; have HR := Aside0.mk (Kd.R_lower hR HB.out.size); have HB2 := Aside0.mk (below_step HB.out hb); clear hR hb))
   go_ret2
   exact ⟨_, rfl, HR.out, HB2.out⟩
end Go.Proofs.Ytdcdkckpmkfjdaa.L

namespace Go.Proofs.Ytdcdkckpmkfjdaa.P
open Go.RowKit Go.Proofs.YtdcdkckpmkfjdaaW.PrintWords Go.Proofs.YtdcdkckpmkfjdaaW.PrintLast Go.Proofs.YtdcdkckpmkfjdaaW.PrintMore
attribute [local go_sem] max2_int min2_int max_two min_two max_three min_three max_four min_four   -- for this text's walks alone
set_option linter.unusedVariables false
set_option linter.unusedSimpArgs false

def spec_weSide.f (a0 : Int) : Option (Bool) := (spec_l1In.f a0 1 4).bind fun t101 => (some t101)
set_option maxHeartbeats 8000000 in
set_option maxRecDepth 100000 in
theorem spec_weSide.calls (a0 : Int) (r : Bool) (w : World) (h : spec_weSide.f a0 = some r) :
  Calls Try.prog 57 #[.int .i64 a0] w fun e w' => e = .returned (.bool r) ∧ Drawn0 w w' := by
 have H : ((spec_l1In.f a0 1 4).bind fun t101 => (some t101)) = some r := h
 clear h
 replace H := Option.bind_eq_some_iff.mp H
 obtain ⟨t101, A20, H⟩ := H
 replace H : (some t101) = some r := H
 have A2 := Aside0.mk A20
 clear A20
 obtain rfl := Option.some.inj H
 go_enter Try.func57, Try.ntmps57
 go_wp2_with (first | ((with_reducible refine gate_callee (f := 99) rfl ?_); refine goesL_ (some 4) rfl rfl Try.func99 (by kernel_rfl) rfl #[.int .i64 a0, .int .i64 1, .int .i64 4] rfl (by (try simp only [List.map_toArray, List.map_cons, List.map_nil]); first | done | rfl | (simp only [List.length_drop, List.length_take]; rfl)) ?_; (with_reducible refine (spec_l1In.calls a0 1 4 t101 _ A2.out).mono ?_); rintro e w' ⟨rfl, ⟨nd, rfl⟩⟩; refine ⟨_, rfl, ?_⟩))
 go_ret
 exact ⟨by first | rfl | (simp; done) | (simp [*]; done), by repeat (first | exact Drawn0.refl _ | apply Drawn0.step)⟩

end Go.Proofs.Ytdcdkckpmkfjdaa.P

namespace Go.Proofs.Ytdcdkckpmkfjdaa
open Go.RowKit Go.Proofs.YtdcdkckpmkfjdaaW.PrintWords Go.Proofs.YtdcdkckpmkfjdaaW.PrintLast Go.Proofs.YtdcdkckpmkfjdaaW.PrintMore
set_option linter.unusedVariables false
set_option linter.unusedSimpArgs false

def cnt1 (c : List Int) (x : Int) : List Int := c.set x.toNat (wrap64 (rd c x + 1))
def cntRow (row : List Int) (c : List Int) : List Int := row.foldl cnt1 c
def cntAll (T : List (List Int)) (c : List Int) : List Int := T.foldl (fun c r => cntRow r c) c
def cTo (K : List (List Int)) (c : List Int) (i : Nat) : List Int := cntAll (K.take i) c
theorem cnt1_length (c : List Int) (x : Int) : (cnt1 c x).length = c.length := by simp [cnt1]
theorem cntRow_length : ∀ (row c : List Int), (cntRow row c).length = c.length
 | [], c => rfl
 | x :: r, c => (cntRow_length r (cnt1 c x)).trans (cnt1_length c x)
theorem cntAll_length : ∀ (T : List (List Int)) (c : List Int), (cntAll T c).length = c.length
 | [], c => rfl
 | r :: T, c => (cntAll_length T (cntRow r c)).trans (cntRow_length r c)
theorem cTo_length (K : List (List Int)) (c : List Int) (i : Nat) : (cTo K c i).length = c.length := cntAll_length _ _
theorem cTo_end (K : List (List Int)) (c : List Int) (i : Nat) (h : K.length ≤ i) : cTo K c i = cntAll K c := by unfold cTo; rw [List.take_of_length_le h]
theorem cTo_succ (K : List (List Int)) (c : List Int) (i : Nat) (h : i < K.length) : cTo K c (i + 1) = cntRow (K.getD i []) (cTo K c i) := by
 unfold cTo cntAll
 rw [List.take_add_one, List.getElem?_eq_getElem h, List.foldl_append, List.getD_eq_getElem?_getD, List.getElem?_eq_getElem h]; rfl
theorem cntRow_succ (row c : List Int) (j : Nat) (h : j < row.length) : cntRow (row.take (j + 1)) c = cnt1 (cntRow (row.take j) c) (rd row j) := by
 unfold cntRow
 rw [List.take_add_one, List.getElem?_eq_getElem h, List.foldl_append, show rd row j = row[j] by simp [rd, List.getD_eq_getElem?_getD, h]]; rfl

set_option maxHeartbeats 4000000 in
set_option maxRecDepth 100000 in
theorem spec_weCounts.callsG (A0 : Option Addr) (c0 : Nat) (l0 K : List (List Int)) (w : World)
  (hk : ∀ W, Below w.heap.size w W → Calls Try.prog 120 #[.slice A0 l0.length c0] W fun e w' => ∃ v0_ : Value, e = .returned (v0_) ∧ Kd.S (Kd.slice 3 (Kd.int .i64)) 22 w' W.heap.size (fun _ => True) v0_ K ∧ Below W.heap.size W w')
  (hK : ∀ i j : Nat, i < K.length → j < (K.getD i []).length → 0 ≤ rd (K.getD i []) j ∧ rd (K.getD i []) j < 6) :
  Calls Try.prog 77 #[.slice A0 l0.length c0] w (RetR w (cntAll K (List.replicate 6 0))) := by
 have HKK := Aside0.mk hk
 have HKR := Aside0.mk hK
 clear hk hK
 have mk1 : ∀ W : World, Sem.run Try.prog (Instr.makeSlice 22 (.int .i64 6) (.int .i64 6)) W = Result.ok (Value.slice (some ⟨W.heap.size, 0, none⟩) 6 6) (W.alloc (.cells (madeCells #[.int .i64 0] 6) 3)) := fun W => run_make_row' (P := Try.prog) 22 3 (.int .i64 0) 8 Try.underlying22 info_ints rfl .i64 .i64 6 (by omega) (by omega) W
 have hst : intBlk (w.alloc (.cells (madeCells #[.int .i64 0] 6) 3)) w.heap.size (List.replicate 6 0) := by unfold intBlk; have := blk_new w (.cells (madeCells #[.int .i64 0] 6) 3); rw [madeInts] at this ⊢; exact this
 have HST := Aside0.mk hst
 have HB0 := Aside0.mk (below_alloc (Below.refl w.heap.size w) (.cells (madeCells #[.int .i64 0] 6) 3))
 have HSZ := Aside0.mk (show w.heap.size < (w.alloc (.cells (madeCells #[.int .i64 0] 6) 3)).heap.size by show w.heap.size < (w.heap.push _).size; rw [Array.size_push]; omega)
 clear hst
 obtain ⟨zs, hzs⟩ : ∃ z, z = List.replicate 6 (0 : Int) := ⟨_, rfl⟩
 have hzl : zs.length = 6 := by rw [hzs]; rfl
 rw [← hzs] at HST ⊢
 clear hzs
 have HZL := Aside0.mk hzl
 clear hzl
 go_enter Try.func77, Try.ntmps77
 go_wp2_with (go_at_call 120; refine (HKK.out _ HB0.out).mono ?_; rintro e w1 ⟨v, rfl, hS, hb⟩; obtain ⟨A1, c1, rfl⟩ := Kd.R_slice (Kd.S_R hS); have hln := (Kd.R_reads' (Kd.S_R hS)).2.2.2.1; have HS := Aside0.mk hS; have HI := Aside0.mk (show intBlk w1 w.heap.size zs from blk_below HST.out hb); have HB1 := Aside0.mk (below_step HB0.out hb); clear hS hb)
 go_loopg [5, 7, 12] K.length (fun gg s5 s7 s12 wr => ∃ i : Nat, i ≤ K.length ∧ K.length - i ≤ gg ∧ s12 = .int .i64 i ∧ Aside0 (intBlk wr w.heap.size (cTo K zs i)) ∧ Aside0 (Kept w1 wr (fun k => k = w.heap.size)) ∧ Aside0 (Below w.heap.size w wr))
 case atStart => exact ⟨0, Nat.zero_le _, Nat.le_refl _, rfl, HI, ⟨Kept.refl _ _⟩, HB1⟩
 case round =>
  clear HI HB1 HST HB0 HKK
  obtain ⟨i, hi, hg, rfl, HI, HKP, HB⟩ := hrel
  obtain ⟨wo, rfl⟩ : ∃ wo : World, wo = wr := ⟨_, rfl⟩
  by_cases hlt : i < K.length
  ·have hz : (i : Int) < (K.length : Int) := by omega
   obtain ⟨g0, A2, c2, e0, hrow⟩ := rowKept HS.out HSZ.out i hlt
   cases e0
   have HR := Aside0.mk hrow
   have hx := (hrow _ HKP.out).1
   have HKR2 := Aside0.mk (fun j => HKR.out i j hlt)
   have HNX := Aside0.mk (cTo_succ K zs i hlt)
   clear hrow
   obtain ⟨row, hrw⟩ : ∃ r, r = K.getD i [] := ⟨_, rfl⟩
   rw [← hrw] at HR hx HKR2 HNX
   clear hrw
   have hrl := (HR.out _ HKP.out).2.2.2.1
   go_wp2
   go_loopg [7, 18] row.length (fun gj s7 s18 wr2 => ∃ j : Nat, j ≤ row.length ∧ row.length - j ≤ gj ∧ s18 = .int .i64 j ∧ Aside0 (intBlk wr2 w.heap.size (cntRow (row.take j) (cTo K zs i))) ∧ Aside0 (Kept w1 wr2 (fun k => k = w.heap.size)) ∧ Aside0 (Below w.heap.size w wr2))
   case atStart => exact ⟨0, Nat.zero_le _, Nat.le_refl _, rfl, HI, HKP, HB⟩
   case round =>
    clear HI HKP HB hx
    obtain ⟨j, hj, hgj, rfl, HI, HKP, HB⟩ := hrel
    by_cases hjt : j < row.length
    ·have hjz : (j : Int) < (row.length : Int) := by omega
     obtain ⟨ad, e1, hy⟩ := Kd.at_int (HR.out _ HKP.out).2.2 (j : Int) (by omega) hjz
     cases e1
     simp only [Int.toNat_natCast] at hy
     have hxr := HKR2.out j hjt
     have HC1 := Aside0.mk (cntRow_succ row (cTo K zs i) j hjt)
     obtain ⟨x, hxx⟩ : ∃ x, x = rd row j := ⟨_, rfl⟩
     rw [← hxx] at hy hxr HC1
     clear hxx
     obtain ⟨n, rfl⟩ := Int.eq_ofNat_of_zero_le hxr.1
     obtain ⟨cs, hcs⟩ : ∃ c, c = cntRow (row.take j) (cTo K zs i) := ⟨_, rfl⟩
     have hcl : cs.length = 6 := by rw [hcs, cntRow_length, cTo_length, HZL.out]
     rw [← hcs] at HI HC1
     clear hcs
     have hn6 : n < 6 := by omega
     have hn6z : (n : Int) < 6 := by omega
     have hcell := (blk_cell HI.out n).trans (show ((cs.map (Value.int .i64)).toArray[n]?) = some (.int .i64 (rd cs n)) by simp [rd, List.getD_eq_getElem?_getD, show n < cs.length by omega])
     have hfz := blk_frozen HI.out n
     have HP := Aside0.mk (show intBlk (wr.setCell ⟨w.heap.size, n, none⟩ (.int .i64 (wrap64 (rd cs n + 1)))) w.heap.size (cnt1 cs n) from blk_put HI.out n _ (by simp [cnt1]))
     have HK2 := Aside0.mk (HKP.out.setCell (p := ⟨w.heap.size, n, none⟩) (.inl rfl) (.int .i64 (wrap64 (rd cs n + 1))))
     have HB2 := Aside0.mk (HB.out.setCell (show w.heap.size ≤ (⟨w.heap.size, n, none⟩ : Addr).block from Nat.le_refl _) (.int .i64 (wrap64 (rd cs n + 1))))
     clear hxr hcl
     go_wp2
     go_roundg (row.length - (j + 1))
     case measure => omega
     case rel => exact ⟨j + 1, by omega, by omega, by go_num, by rw [HC1.out]; exact HP, HK2, HB2⟩
    ·have hjz : ¬ (j : Int) < (row.length : Int) := by omega
     have hjc : row.length ≤ j := by omega
     rw [List.take_of_length_le hjc, ← HNX.out] at HI
     go_wp2
     go_roundg (K.length - (i + 1))
     case measure => omega
     case rel => exact ⟨i + 1, by omega, by omega, by go_num, HI, HKP, HB⟩
  ·have hz : ¬ (i : Int) < (K.length : Int) := by omega
   have hir : K.length ≤ i := by omega
   rw [cTo_end K zs i hir] at HI
   have hR := intBlk_R (ok := fun _ => True) HI.out (Nat.le_refl _) trivial (by rw [cntAll_length, HZL.out]; omega)
   rw [cntAll_length, HZL.out] at hR
   have HRR := Aside0.mk hR
   clear hR
   go_wp2
   go_ret
   exact ⟨_, rfl, HRR.out, HB.out⟩

end Go.Proofs.Ytdcdkckpmkfjdaa

namespace Go.Proofs.Ytdcdkckpmkfjdaa.P
open Go.RowKit Go.Proofs.YtdcdkckpmkfjdaaW.PrintWords Go.Proofs.YtdcdkckpmkfjdaaW.PrintLast Go.Proofs.YtdcdkckpmkfjdaaW.PrintMore
attribute [local go_sem] max2_int min2_int max_two min_two max_three min_three max_four min_four   -- for this text's walks alone
set_option linter.unusedVariables false
set_option linter.unusedSimpArgs false

mutual
def spec_weKinds.l0 : Nat → List (List Int) → List Int → List (List Int) → Int → Int → Option ((List (List Int)))
 | 0, _, _, _, _, _ => none
 | k + 1, x3, x4, x14, x15, x16 => if x16 < x15 then (if 0 ≤ x16 then (if x16 < (x14.length : Int) then (spec_weKinds.l1 k x3 x4 ([] : List Int) 0 x14 x15 x16 (rd_L1 x14 x16) ((rd_L1 x14 x16).length : Int) 0) else (none)) else (none)) else (some x3)
def spec_weKinds.l1 : Nat → List (List Int) → List Int → List Int → Int → List (List Int) → Int → Int → List Int → Int → Int → Option ((List (List Int)))
 | 0, _, _, _, _, _, _, _, _, _, _ => none
 | k + 1, x3, x4, x7, x8, x14, x15, x16, x20, x21, x22 => if x22 < x21 then (if 0 ≤ x22 then (if x22 < (x20.length : Int) then (if (rd x20 x22) = 1 then (if x7.length < 17592186044416 then (if x22 < (x4.length : Int) then (spec_weKinds.l1 k x3 (x4.set (x22 : Int).toNat (wrap64 ((rd x4 x22) + (rd x20 x22)))) (x7 ++ [4]) (wrap64 (x8 + (rd x20 x22))) x14 x15 x16 x20 x21 (wrap64 (x22 + 1))) else (none)) else (none)) else (if (rd x20 x22) = (-1) then (if x7.length < 17592186044416 then (if x22 < (x4.length : Int) then (spec_weKinds.l1 k x3 (x4.set (x22 : Int).toNat (wrap64 ((rd x4 x22) + (rd x20 x22)))) (x7 ++ [5]) (wrap64 (x8 + (rd x20 x22))) x14 x15 x16 x20 x21 (wrap64 (x22 + 1))) else (none)) else (none)) else (if x22 < (x4.length : Int) then (if x7.length < 17592186044416 then (spec_weKinds.l1 k x3 (x4.set (x22 : Int).toNat (wrap64 ((rd x4 x22) + (rd x20 x22)))) (x7 ++ [wrap64 ((wrap64 (2 * x8)) + (rd x4 x22))]) (wrap64 (x8 + (rd x20 x22))) x14 x15 x16 x20 x21 (wrap64 (x22 + 1))) else (none)) else (none)))) else (none)) else (none)) else (if x3.length < 5864062014805 then (spec_weKinds.l0 k (x3 ++ [x7]) x4 x14 x15 (wrap64 (x16 + 1))) else (none))
end
def spec_weKinds.f (k : Nat) (l0 : List (List Int)) : Option ((List (List Int))) := if 0 ≤ (l0.length : Int) then (if ((l0.length : Int) : Int).toNat ≤ 35184372088832 then (spec_weKinds.l0 k ([] : List (List Int)) (List.replicate ((l0.length : Int) : Int).toNat 0) l0 (l0.length : Int) 0) else (none)) else (none)
theorem spec_weKinds.mono_l : ∀ k, (∀ y0 y1 y2 y3 y4, LeO (spec_weKinds.l0 k y0 y1 y2 y3 y4) (spec_weKinds.l0 (k + 1) y0 y1 y2 y3 y4)) ∧ (∀ y0 y1 y2 y3 y4 y5 y6 y7 y8 y9, LeO (spec_weKinds.l1 k y0 y1 y2 y3 y4 y5 y6 y7 y8 y9) (spec_weKinds.l1 (k + 1) y0 y1 y2 y3 y4 y5 y6 y7 y8 y9))
 | 0 => ⟨fun _ _ _ _ _ r h => by simp [spec_weKinds.l0] at h, fun _ _ _ _ _ _ _ _ _ _ r h => by simp [spec_weKinds.l1] at h⟩
 | k + 1 => by
  obtain ⟨ih0, ih1⟩ := spec_weKinds.mono_l k
  refine ⟨?_, ?_⟩
  ·intro y0 y1 y2 y3 y4
   unfold spec_weKinds.l0
   repeat' first
   | (with_reducible exact ih0 _ _ _ _ _)
   | (with_reducible exact ih1 _ _ _ _ _ _ _ _ _ _)
   | (with_reducible exact LeO.refl _)
   | (with_reducible exact LeO.none _)
   | (with_reducible refine LeO.ite ?_ ?_)
   | (with_reducible refine LeO.bind ?_ (fun _ => ?_))
   | exact ih0 _ _ _ _ _
   | exact ih1 _ _ _ _ _ _ _ _ _ _
   | exact LeO.none _
   | refine LeO.ite ?_ ?_
   | refine LeO.bind ?_ (fun _ => ?_)
  ·intro y0 y1 y2 y3 y4 y5 y6 y7 y8 y9
   unfold spec_weKinds.l1
   repeat' first
   | (with_reducible exact ih0 _ _ _ _ _)
   | (with_reducible exact ih1 _ _ _ _ _ _ _ _ _ _)
   | (with_reducible exact LeO.refl _)
   | (with_reducible exact LeO.none _)
   | (with_reducible refine LeO.ite ?_ ?_)
   | (with_reducible refine LeO.bind ?_ (fun _ => ?_))
   | exact ih0 _ _ _ _ _
   | exact ih1 _ _ _ _ _ _ _ _ _ _
   | exact LeO.none _
   | refine LeO.ite ?_ ?_
   | refine LeO.bind ?_ (fun _ => ?_)
theorem spec_weKinds.mono : ∀ a0 k, LeO (spec_weKinds.f k a0) (spec_weKinds.f (k + 1) a0) := by
 intro a0 k
 obtain ⟨ih0, ih1⟩ := spec_weKinds.mono_l k
 unfold spec_weKinds.f
 repeat' first
   | (with_reducible exact ih0 _ _ _ _ _)
   | (with_reducible exact ih1 _ _ _ _ _ _ _ _ _ _)
   | (with_reducible exact LeO.refl _)
   | (with_reducible exact LeO.none _)
   | (with_reducible refine LeO.ite ?_ ?_)
   | (with_reducible refine LeO.bind ?_ (fun _ => ?_))
   | exact ih0 _ _ _ _ _
   | exact ih1 _ _ _ _ _ _ _ _ _ _
   | exact LeO.none _
   | refine LeO.ite ?_ ?_
   | refine LeO.bind ?_ (fun _ => ?_)
set_option maxHeartbeats 8000000 in
set_option maxRecDepth 100000 in
theorem spec_weKinds.calls (k : Nat) (A0 : Option Addr) (c0 : Nat) (l0 : List (List Int)) (r : List (List Int)) (w : World) (hr0 : Kd.C (Kd.slice 3 (Kd.int .i64)) w A0 l0.length l0) (hc0 : l0.length ≤ c0) (h : spec_weKinds.f k l0 = some r) :
  Calls Try.prog 120 #[.slice A0 l0.length c0] w fun e w' => ∃ v0_ : Value, e = .returned (v0_) ∧ Kd.S (Kd.slice 3 (Kd.int .i64)) 22 w' w.heap.size (fun _ => True) v0_ r ∧ Below w.heap.size w w' := by
 have HR0 := Aside0.mk hr0
 have HC0 := Aside0.mk hc0
 clear hr0 hc0
 have HB := Aside0.mk (Below.refl w.heap.size w)
 have H : (if 0 ≤ (l0.length : Int) then (if ((l0.length : Int) : Int).toNat ≤ 35184372088832 then (spec_weKinds.l0 k ([] : List (List Int)) (List.replicate ((l0.length : Int) : Int).toNat 0) l0 (l0.length : Int) 0) else (none)) else (none)) = some r := h
 clear h
 by_cases c2 : 0 ≤ (l0.length : Int)
 ·rw [if_pos c2] at H
  have c2b0 := eq_true c2
  have c2b1 : decide (0 ≤ (l0.length : Int)) = true := decide_eq_true c2
  clear c2
  by_cases c3 : ((l0.length : Int) : Int).toNat ≤ 35184372088832
  ·rw [if_pos c3] at H
   have c3b0 := eq_true c3
   have c3b1 : decide (((l0.length : Int) : Int).toNat ≤ 35184372088832) = true := decide_eq_true c3
   clear c3
   obtain ⟨y184, hy184⟩ : ∃ y_ : List Int, y_ = (List.replicate ((l0.length : Int) : Int).toNat 0) := ⟨_, rfl⟩
   replace H : (spec_weKinds.l0 k ([] : List (List Int)) y184 l0 (l0.length : Int) 0) = some r := by first | (rw [hy184]; with_reducible exact H) | (have H2_ := (Option.bind_some _ _).symm.trans H; rw [hy184]; with_reducible exact H2_) | (have H2_ := (Option.bind_some _ _).symm.trans H; with_reducible exact H2_) | with_reducible exact H | (rw [hy184]; exact H) | exact H
   have Ny184 := Aside0.mk hy184
   clear hy184
   have H' := Aside0.mk H
   clear H
   go_enter Try.func120, Try.ntmps120
   go_wp2_with (first | ((with_reducible refine gate_dst (N := 13) rfl ?_); refine Kd.R_make (Kd.int .i64) _ 3 rfl (N := 13) rfl 22 _ _ rfl (l0.length : Int) rfl rfl Try.underlying22 (.int .i64 0) 8 info3 rfl (by decide) (by omega) 0 (ok := fun _ => True) (okp := fun _ => True) rfl (fun _ hk => hk) trivial (of_decide_eq_true (by first | (with_reducible assumption) | assumption)) (Nat.le_trans (Nat.mul_le_mul_right _ (of_decide_eq_true (by first | (with_reducible assumption) | assumption) : (l0.length : Int).toNat ≤ 35184372088832)) (by omega)) (Below.refl _ _) (Nat.le_refl _) ?_; intro v185 w4 ho5 hb hg_ hnew_; clear hg_ hnew_; (first | rw [← Ny184.out] at ho5 | (simp only [Int.reduceToNat] at ho5; rw [← Ny184.out] at ho5)); have n0_ := Aside0.mk (Kd.R_lower ho5 (below_size (by repeat (first | (with_reducible first | exact HB.out | apply below_alloc | apply pw_below_drewN | apply below_drew1) | exact HB.out)))); have n1_ := Aside0.mk (below_step (by repeat (first | (with_reducible first | exact HB.out | apply below_alloc | apply pw_below_drewN | apply below_drew1) | exact HB.out)) hb); clear HB; have HO186 := n0_; have HB := n1_; clear n0_ n1_; clear hb ho5))
   go_loopg [3, 16] k (fun kq v3 v16 w' => ∃ (x3_1 : List (List Int)) (x4_1 : List Int) (x16_1 : Int), v16 = .int .i64 x16_1 ∧ Aside0 (spec_weKinds.l0 kq x3_1 x4_1 l0 (l0.length : Int) x16_1 = some r) ∧ Aside0 (kq ≤ k) ∧ Aside0 (Kd.S (Kd.slice 3 (Kd.int .i64)) 22 w' w.heap.size (fun k_ => some k_ ≠ (v185 : Value).ownBlock) v3 x3_1) ∧ Aside0 (Kd.R (Kd.int .i64) 3 w' w.heap.size (fun _ => True) v185 x4_1) ∧ Aside0 (Below w.heap.size w w'))
   case atStart => exact ⟨(([] : List (List Int))), (y184), (0), (by first | rfl | (simp; done) | (simp [*]; done)), H', ⟨Nat.le_refl _⟩, ⟨by first | exact Kd.S_nil _ _ _ _ _ | exact Kd.N_nil _ _ _ _ _ | exact Kd.V_nil _ _ _ _ _ | exact Kd.Q_nil _ _ _ _ _ | exact Kd.R_nil _ _ _ _ _⟩, ⟨by (with_reducible repeat (first | apply Kd.R_alloc | apply Kd.R_drewN | apply Kd.R_drew)); exact HO186.out⟩, ⟨by repeat (first | (with_reducible first | exact HB.out | apply below_alloc | apply pw_below_drewN | apply below_drew1) | exact HB.out)⟩⟩
   case round =>
    clear H'
    try clear c1
    try clear c2
    try clear c2b0
    try clear c2b1
    try clear p2
    try clear c3
    try clear c3b0
    try clear c3b1
    obtain ⟨x3_1, x4_1, x16_1, rfl, HA, HK1, HO_3, HO_4, HB⟩ := hrel
    cases gk with
    | zero => exact absurd HA.out (by simp [spec_weKinds.l0])
    | succ k1 =>
     have H := HA.out
     clear HA
     simp only [spec_weKinds.l0] at H
     by_cases c6 : x16_1 < (l0.length : Int)
     ·rw [if_pos c6] at H
      have c6b0 : decide (x16_1 < (l0.length : Int)) = true := decide_eq_true c6
      clear c6
      by_cases c7 : 0 ≤ x16_1
      ·rw [if_pos c7] at H
       have c7b0 : decide (0 ≤ x16_1) = true := decide_eq_true c7
       clear c7
       by_cases c8 : x16_1 < (l0.length : Int)
       ·rw [if_pos c8] at H
        have c8b0 : decide (x16_1 < (l0.length : Int)) = true := decide_eq_true c8
        clear c8
        have H' := Aside0.mk H
        clear H
        have p187 : 0 ≤ (x16_1 : Int) := of_decide_eq_true (by first | (with_reducible assumption) | assumption)
        have q187 : x16_1 < (l0.length : Int) := of_decide_eq_true (by first | (with_reducible assumption) | assumption)
        obtain ⟨ad187, A187_0, c187_0, e187, hx187_0, hl187_0, hi187_0⟩ := at_L1 HR0.out x16_1 p187 q187
        cases e187
        (try replace hx187_0 := (HB.out.cell (World.block_lt_of_cell? w _ hx187_0)).trans hx187_0)
        have HR187_0 := Aside0.mk hi187_0
        have HC187_0 := Aside0.mk hl187_0
        clear hi187_0 hl187_0
        replace p187 := eq_true p187
        replace q187 := eq_true q187
        go_wp2
        go_loopg [7, 8, 22] k1 (fun kq v7 v8 v22 w' => ∃ (x4_2 : List Int) (x7_2 : List Int) (x8_2 : Int) (x22_2 : Int), v8 = .int .i64 x8_2 ∧ v22 = .int .i64 x22_2 ∧ Aside0 (spec_weKinds.l1 kq x3_1 x4_2 x7_2 x8_2 l0 (l0.length : Int) x16_1 (rd_L1 l0 x16_1) ((rd_L1 l0 x16_1).length : Int) x22_2 = some r) ∧ Aside0 (kq ≤ k1) ∧ Aside0 (Kd.S (Kd.slice 3 (Kd.int .i64)) 22 w' w.heap.size (fun k_ => some k_ ≠ (v185 : Value).ownBlock ∧ some k_ ≠ (v7 : Value).ownBlock) u3 x3_1) ∧ Aside0 (Kd.R (Kd.int .i64) 3 w' w.heap.size (fun k_ => some k_ ≠ (v7 : Value).ownBlock) v185 x4_2) ∧ Aside0 (Kd.R (Kd.int .i64) 3 w' w.heap.size (fun k_ => some k_ ≠ (v185 : Value).ownBlock) v7 x7_2) ∧ Aside0 (Below w.heap.size w w'))
        case atStart => exact ⟨(x4_1), (([] : List Int)), (0), (0), (by first | rfl | (simp; done) | (simp [*]; done)), (by first | rfl | (simp; done) | (simp [*]; done)), H', ⟨Nat.le_refl _⟩, ⟨by (with_reducible repeat (first | apply Kd.S_alloc | apply Kd.S_drewN | apply Kd.S_drew)); exact Kd.S_mono HO_3.out (fun _ hk => ⟨hk, (by simp [Value.ownBlock])⟩)⟩, ⟨by (with_reducible repeat (first | apply Kd.R_alloc | apply Kd.R_drewN | apply Kd.R_drew)); exact Kd.R_mono HO_4.out (fun _ hk => (by simp [Value.ownBlock]))⟩, ⟨by first | exact Kd.R_nil _ _ _ _ _ | exact Kd.N_nil _ _ _ _ _ | exact Kd.V_nil _ _ _ _ _ | exact Kd.Q_nil _ _ _ _ _ | exact Kd.S_nil _ _ _ _ _⟩, ⟨by repeat (first | (with_reducible first | exact HB.out | apply below_alloc | apply pw_below_drewN | apply below_drew1) | exact HB.out)⟩⟩
        case round =>
         clear H'
         try clear c1
         try clear p1
         try clear q1
         try clear hx1
         try clear c2
         try clear c2b0
         try clear c2b1
         try clear p2
         try clear c3
         try clear c3b0
         try clear c3b1
         try clear c6
         try clear c6b0
         try clear c7
         try clear c7b0
         try clear c8
         try clear c8b0
         try clear hx187_0
         try clear p187
         try clear p2
         try clear q187
         obtain ⟨x4_2, x7_2, x8_2, x22_2, rfl, rfl, HA, HK2, HO_3, HO_4, HO_7, HB⟩ := hrel
         cases gk with
         | zero => exact absurd HA.out (by simp [spec_weKinds.l1])
         | succ k2 =>
          have H := HA.out
          clear HA
          simp only [spec_weKinds.l1] at H
          by_cases c9 : x22_2 < ((rd_L1 l0 x16_1).length : Int)
          ·rw [if_pos c9] at H
           have c9b0 : decide (x22_2 < ((rd_L1 l0 x16_1).length : Int)) = true := decide_eq_true c9
           clear c9
           by_cases c10 : 0 ≤ x22_2
           ·rw [if_pos c10] at H
            have c10b0 : decide (0 ≤ x22_2) = true := decide_eq_true c10
            clear c10
            by_cases c11 : x22_2 < ((rd_L1 l0 x16_1).length : Int)
            ·rw [if_pos c11] at H
             have c11b0 : decide (x22_2 < ((rd_L1 l0 x16_1).length : Int)) = true := decide_eq_true c11
             clear c11
             by_cases c12 : (rd (rd_L1 l0 x16_1) x22_2) = 1
             ·rw [if_pos c12] at H
              have c12b0 : ((rd (rd_L1 l0 x16_1) x22_2) == 1) = true := beq_iff_eq.mpr c12
              have c12b1 : ((rd (rd_L1 l0 x16_1) x22_2) != 1) = false := bne_eq_false_iff_eq.mpr c12
              clear c12
              by_cases c13 : x7_2.length < 17592186044416
              ·rw [if_pos c13] at H
               have LMc13 := Aside0.mk c13
               clear c13
               obtain ⟨y192, hy192⟩ : ∃ y_ : List Int, y_ = (x7_2 ++ [4]) := ⟨_, rfl⟩
               replace H : (if x22_2 < (x4_2.length : Int) then (spec_weKinds.l1 k2 x3_1 (x4_2.set (x22_2 : Int).toNat (wrap64 ((rd x4_2 x22_2) + (rd (rd_L1 l0 x16_1) x22_2)))) y192 (wrap64 (x8_2 + (rd (rd_L1 l0 x16_1) x22_2))) l0 (l0.length : Int) x16_1 (rd_L1 l0 x16_1) ((rd_L1 l0 x16_1).length : Int) (wrap64 (x22_2 + 1))) else (none)) = some r := by first | (rw [hy192]; with_reducible exact H) | (have H2_ := (Option.bind_some _ _).symm.trans H; rw [hy192]; with_reducible exact H2_) | (have H2_ := (Option.bind_some _ _).symm.trans H; with_reducible exact H2_) | with_reducible exact H | (rw [hy192]; exact H) | exact H
               have Ny192 := Aside0.mk hy192
               clear hy192
               by_cases c14 : x22_2 < (x4_2.length : Int)
               ·rw [if_pos c14] at H
                have c14b0 : decide (x22_2 < (x4_2.length : Int)) = true := decide_eq_true c14
                clear c14
                obtain ⟨y196, hy196⟩ : ∃ y_ : List Int, y_ = (x4_2.set (x22_2 : Int).toNat (wrap64 ((rd x4_2 x22_2) + (rd (rd_L1 l0 x16_1) x22_2)))) := ⟨_, rfl⟩
                replace H : (spec_weKinds.l1 k2 x3_1 y196 y192 (wrap64 (x8_2 + (rd (rd_L1 l0 x16_1) x22_2))) l0 (l0.length : Int) x16_1 (rd_L1 l0 x16_1) ((rd_L1 l0 x16_1).length : Int) (wrap64 (x22_2 + 1))) = some r := by first | (rw [hy196]; with_reducible exact H) | (have H2_ := (Option.bind_some _ _).symm.trans H; rw [hy196]; with_reducible exact H2_) | (have H2_ := (Option.bind_some _ _).symm.trans H; with_reducible exact H2_) | with_reducible exact H | (rw [hy196]; exact H) | exact H
                have Ny196 := Aside0.mk hy196
                clear hy196
                have H' := Aside0.mk H
                clear H
                have p191 : 0 ≤ (x22_2 : Int) := of_decide_eq_true (by first | (with_reducible assumption) | assumption)
                have q191 : x22_2 < ((rd_L1 l0 x16_1).length : Int) := of_decide_eq_true (by first | (with_reducible assumption) | assumption)
                obtain ⟨ad191, e191, hx191_0⟩ := Kd.at_int HR187_0.out x22_2 p191 q191
                cases e191
                (try replace hx191_0 := (HB.out.cell (World.block_lt_of_cell? w _ hx191_0)).trans hx191_0)
                replace p191 := eq_true p191
                replace q191 := eq_true q191
                go_wp2_with (first | ((with_reducible refine gate_builtin (b := .append) (xs := #[.tmp 40, .tmp 41]) rfl ?_); at_builtin; refine Kd.R_append (Kd.int .i64) (w0 := w) w.heap.size rfl (.tmp 40) (.tmp 41) 22 3 (.int .i64 0) 8 rfl Try.underlying22 info3 rfl (by decide) (by omega) u7 x7_2 4 [.int .i64 4] (fun k_ => some k_ ≠ (v185 : Value).ownBlock) (fun _ => False) rfl rfl ?aP (fun _ hk => hk.elim) ?aF ?aO ?aB ?aS ?aL ?_; (case aP => exact rfl); (case aB => exact (by repeat (first | (with_reducible first | exact HB.out | apply below_alloc | apply pw_below_drewN | apply below_drew1) | exact HB.out))); (case aF => exact (fun k_ hk => Kd.fresh' (Kd.R_lt (by (with_reducible repeat (first | apply Kd.R_alloc | apply Kd.R_drewN | apply Kd.R_drew)); exact HO_4.out)) k_ hk)); (case aO => exact (by (with_reducible repeat (first | apply Kd.R_alloc | apply Kd.R_drewN | apply Kd.R_drew)); exact HO_7.out)); (case aS => exact (below_size (by repeat (first | (with_reducible first | exact HB.out | apply below_alloc | apply pw_below_drewN | apply below_drew1) | exact HB.out)))); (case aL => have := LMc13.out; omega); intro v193 w16 ho hb hg hat; rw [← Ny192.out] at ho; have n0_ := Aside0.mk (Kd.S_after (ok := (fun k_ => some k_ ≠ (v185 : Value).ownBlock)) (by (with_reducible repeat (first | apply Kd.S_alloc | apply Kd.S_drewN | apply Kd.S_drew)); exact HO_3.out) hg hat); have n1_ := Aside0.mk (Kd.R_after (ok := (fun _ => True)) (by (with_reducible repeat (first | apply Kd.R_alloc | apply Kd.R_drewN | apply Kd.R_drew)); exact Kd.R_mono HO_4.out (fun _ hk => ⟨trivial, hk⟩)) hg hat); have n2_ := Aside0.mk (hb); have n3_ := Aside0.mk (ho); clear HO_3; clear HO_4; clear HB; clear HO_7; have HO_3 := n0_; have HO_4 := n1_; have HB := n2_; have HO194 := n3_; clear n0_ n1_ n2_ n3_; clear ho hb hg hat; obtain ⟨Ao17, co17, eo17⟩ := Kd.R_slice HO_4.out; subst eo17; have p195 : 0 ≤ (x22_2 : Int) := of_decide_eq_true (by first | (with_reducible assumption) | assumption); have q195 : x22_2 < (x4_2.length : Int) := of_decide_eq_true (by first | (with_reducible assumption) | assumption); obtain ⟨ad195, e195, hx195_0⟩ := Kd.at_int (Kd.R_reads' HO_4.out).2.2 x22_2 p195 q195; cases e195; replace p195 := eq_true p195; replace q195 := eq_true q195; have p15 : 0 ≤ (x22_2 : Int) := of_decide_eq_true (by first | (with_reducible assumption) | assumption); have q15 : (x22_2 : Int) < ((x4_2.length : Int) : Int) := of_decide_eq_true (by first | (with_reducible assumption) | assumption); obtain ⟨go15, co15, eo15, gb15, gl15, cl15, HG15⟩ := Kd.R_form HO_4.out (by omega); (first | cases eo15 | (injection eo15 with ea_ en_ ec_; (first | subst ea_ | (injection ea_ with ea_; subst ea_)); subst ec_; clear en_)); have GB15 := Aside0.mk gb15; have GG15 := Aside0.mk HG15; clear gb15 gl15 HG15; (first | simp only [add_plain] at hx195_0 | skip); obtain ⟨hx15_0, hf15_0⟩ := Kd.R_celln 0 HO_4.out (x22_2 : Int) p15 q15; replace p15 := eq_true p15; replace q15 := eq_true q15; have n_ := Aside0.mk (Kd.R_mono (ok' := (fun k_ => some k_ ≠ (v193 : Value).ownBlock)) HO_4.out (fun k_ hk => hk.2)); clear HO_4; have HO_4 := n_; clear n_; obtain ⟨hy18_, hz18_⟩ := Kd.R_celln 0 HO_4.out (x22_2 : Int) (of_decide_eq_true (by first | (with_reducible assumption) | assumption)) (of_decide_eq_true (by first | (with_reducible assumption) | assumption)); have HP18 := Kd.R_putg HO_4.out (x22_2 : Int) (wrap64 ((rd x4_2 x22_2) + (rd (rd_L1 l0 x16_1) x22_2)))) | ((with_reducible refine gate_store (t := 3) (p := 57) rfl ?_); refine store_event (t := 3) (p := 57) (v := ?vo_w19) (w1 := (w16.setCell ⟨go15, (x22_2 : Int).toNat, none⟩ (.int .i64 (wrap64 ((rd x4_2 x22_2) + (rd (rd_L1 l0 x16_1) x22_2)))))) ?hg ?ho ?hn ?hr ?_; (case ho => rfl); (case hg => rfl); (case hn => rfl); (case hr => first | (go_simp; done) | (go_simp; rfl)); intro w19 hw; have hg : w16.grownBy w19 (some go15) := (by rw [hw]; exact HP18.2); have hp_ : Kd.R (Kd.int .i64) 3 w19 w.heap.size (fun k_ => some k_ ≠ (v193 : Value).ownBlock) (.slice (some ⟨go15, 0, none⟩) x4_2.length co17) y196 := (by rw [hw, Ny196.out]; exact HP18.1); clear HP18; have n0_ := Aside0.mk (Kd.S_after (v := (.slice (some ⟨go15, 0, none⟩) x4_2.length co17)) (v1 := (.slice (some ⟨go15, 0, none⟩) x4_2.length co17)) (ok := (fun k_ => some k_ ≠ (v193 : Value).ownBlock)) (by (with_reducible repeat (first | apply Kd.S_alloc | apply Kd.S_drewN | apply Kd.S_drew)); exact Kd.S_mono HO_3.out (fun _ hk => ⟨hk.2, hk.1⟩)) hg (.inl rfl)); have n1_ := Aside0.mk (hp_); have n2_ := Aside0.mk (Kd.R_after (v := (.slice (some ⟨go15, 0, none⟩) x4_2.length co17)) (v1 := (.slice (some ⟨go15, 0, none⟩) x4_2.length co17)) (ok := (fun _ => True)) (by (with_reducible repeat (first | apply Kd.R_alloc | apply Kd.R_drewN | apply Kd.R_drew)); exact Kd.R_mono HO194.out (fun _ hk => ⟨trivial, hk⟩)) hg (.inl rfl)); have n3_ := Aside0.mk ((by rw [hw]; exact below_set (HB.out) GB15.out : Below w.heap.size w w19)); clear HO_3; clear HO_4; clear HO194; clear HB; have HO_3 := n0_; have HO_4 := n1_; have HO194 := n2_; have HB := n3_; clear n0_ n1_ n2_ n3_; clear hg hw hp_))
                go_roundg k2
                case measure => have := HK1.out; have := HK2.out; omega
                case rel => exact ⟨(y196), (y192), (wrap64 (x8_2 + (rd (rd_L1 l0 x16_1) x22_2))), (wrap64 (x22_2 + 1)), (by first | rfl | (simp; done) | (simp [*]; done)), (by first | rfl | (simp; done) | (simp [*]; done)), H', ⟨by have := HK1.out; have := HK2.out; omega⟩, ⟨by (with_reducible repeat (first | apply Kd.S_alloc | apply Kd.S_drewN | apply Kd.S_drew)); exact Kd.S_mono HO_3.out (fun _ hk => ⟨hk.2, hk.1⟩)⟩, ⟨by (with_reducible repeat (first | apply Kd.R_alloc | apply Kd.R_drewN | apply Kd.R_drew)); exact HO_4.out⟩, ⟨by (with_reducible repeat (first | apply Kd.R_alloc | apply Kd.R_drewN | apply Kd.R_drew)); exact Kd.R_mono HO194.out (fun _ hk => hk.2)⟩, ⟨by repeat (first | (with_reducible first | exact HB.out | apply below_alloc | apply pw_below_drewN | apply below_drew1) | exact HB.out)⟩⟩
               ·rw [if_neg c14] at H
                exact absurd H (by simp)
              ·rw [if_neg c13] at H
               exact absurd H (by simp)
             ·rw [if_neg c12] at H
              have c12b0 : ((rd (rd_L1 l0 x16_1) x22_2) == 1) = false := beq_eq_false_iff_ne.mpr c12
              have c12b1 : ((rd (rd_L1 l0 x16_1) x22_2) != 1) = true := bne_iff_ne.mpr c12
              by_cases c20 : (rd (rd_L1 l0 x16_1) x22_2) = (-1)
              ·rw [if_pos c20] at H
               have c20b0 : ((rd (rd_L1 l0 x16_1) x22_2) == (-1)) = true := beq_iff_eq.mpr c20
               have c20b1 : ((rd (rd_L1 l0 x16_1) x22_2) != (-1)) = false := bne_eq_false_iff_eq.mpr c20
               clear c20
               by_cases c21 : x7_2.length < 17592186044416
               ·rw [if_pos c21] at H
                have LMc21 := Aside0.mk c21
                clear c21
                obtain ⟨y197, hy197⟩ : ∃ y_ : List Int, y_ = (x7_2 ++ [5]) := ⟨_, rfl⟩
                replace H : (if x22_2 < (x4_2.length : Int) then (spec_weKinds.l1 k2 x3_1 (x4_2.set (x22_2 : Int).toNat (wrap64 ((rd x4_2 x22_2) + (rd (rd_L1 l0 x16_1) x22_2)))) y197 (wrap64 (x8_2 + (rd (rd_L1 l0 x16_1) x22_2))) l0 (l0.length : Int) x16_1 (rd_L1 l0 x16_1) ((rd_L1 l0 x16_1).length : Int) (wrap64 (x22_2 + 1))) else (none)) = some r := by first | (rw [hy197]; with_reducible exact H) | (have H2_ := (Option.bind_some _ _).symm.trans H; rw [hy197]; with_reducible exact H2_) | (have H2_ := (Option.bind_some _ _).symm.trans H; with_reducible exact H2_) | with_reducible exact H | (rw [hy197]; exact H) | exact H
                have Ny197 := Aside0.mk hy197
                clear hy197
                by_cases c22 : x22_2 < (x4_2.length : Int)
                ·rw [if_pos c22] at H
                 have c22b0 : decide (x22_2 < (x4_2.length : Int)) = true := decide_eq_true c22
                 clear c22
                 obtain ⟨y201, hy201⟩ : ∃ y_ : List Int, y_ = (x4_2.set (x22_2 : Int).toNat (wrap64 ((rd x4_2 x22_2) + (rd (rd_L1 l0 x16_1) x22_2)))) := ⟨_, rfl⟩
                 replace H : (spec_weKinds.l1 k2 x3_1 y201 y197 (wrap64 (x8_2 + (rd (rd_L1 l0 x16_1) x22_2))) l0 (l0.length : Int) x16_1 (rd_L1 l0 x16_1) ((rd_L1 l0 x16_1).length : Int) (wrap64 (x22_2 + 1))) = some r := by first | (rw [hy201]; with_reducible exact H) | (have H2_ := (Option.bind_some _ _).symm.trans H; rw [hy201]; with_reducible exact H2_) | (have H2_ := (Option.bind_some _ _).symm.trans H; with_reducible exact H2_) | with_reducible exact H | (rw [hy201]; exact H) | exact H
                 have Ny201 := Aside0.mk hy201
                 clear hy201
                 have H' := Aside0.mk H
                 clear H
                 have p191 : 0 ≤ (x22_2 : Int) := of_decide_eq_true (by first | (with_reducible assumption) | assumption)
                 have q191 : x22_2 < ((rd_L1 l0 x16_1).length : Int) := of_decide_eq_true (by first | (with_reducible assumption) | assumption)
                 obtain ⟨ad191, e191, hx191_0⟩ := Kd.at_int HR187_0.out x22_2 p191 q191
                 cases e191
                 (try replace hx191_0 := (HB.out.cell (World.block_lt_of_cell? w _ hx191_0)).trans hx191_0)
                 replace p191 := eq_true p191
                 replace q191 := eq_true q191
                 go_wp2_with (first | ((with_reducible refine gate_builtin (b := .append) (xs := #[.tmp 45, .tmp 46]) rfl ?_); at_builtin; refine Kd.R_append (Kd.int .i64) (w0 := w) w.heap.size rfl (.tmp 45) (.tmp 46) 22 3 (.int .i64 0) 8 rfl Try.underlying22 info3 rfl (by decide) (by omega) u7 x7_2 5 [.int .i64 5] (fun k_ => some k_ ≠ (v185 : Value).ownBlock) (fun _ => False) rfl rfl ?aP (fun _ hk => hk.elim) ?aF ?aO ?aB ?aS ?aL ?_; (case aP => exact rfl); (case aB => exact (by repeat (first | (with_reducible first | exact HB.out | apply below_alloc | apply pw_below_drewN | apply below_drew1) | exact HB.out))); (case aF => exact (fun k_ hk => Kd.fresh' (Kd.R_lt (by (with_reducible repeat (first | apply Kd.R_alloc | apply Kd.R_drewN | apply Kd.R_drew)); exact HO_4.out)) k_ hk)); (case aO => exact (by (with_reducible repeat (first | apply Kd.R_alloc | apply Kd.R_drewN | apply Kd.R_drew)); exact HO_7.out)); (case aS => exact (below_size (by repeat (first | (with_reducible first | exact HB.out | apply below_alloc | apply pw_below_drewN | apply below_drew1) | exact HB.out)))); (case aL => have := LMc21.out; omega); intro v198 w24 ho hb hg hat; rw [← Ny197.out] at ho; have n0_ := Aside0.mk (Kd.S_after (ok := (fun k_ => some k_ ≠ (v185 : Value).ownBlock)) (by (with_reducible repeat (first | apply Kd.S_alloc | apply Kd.S_drewN | apply Kd.S_drew)); exact HO_3.out) hg hat); have n1_ := Aside0.mk (Kd.R_after (ok := (fun _ => True)) (by (with_reducible repeat (first | apply Kd.R_alloc | apply Kd.R_drewN | apply Kd.R_drew)); exact Kd.R_mono HO_4.out (fun _ hk => ⟨trivial, hk⟩)) hg hat); have n2_ := Aside0.mk (hb); have n3_ := Aside0.mk (ho); clear HO_3; clear HO_4; clear HB; clear HO_7; have HO_3 := n0_; have HO_4 := n1_; have HB := n2_; have HO199 := n3_; clear n0_ n1_ n2_ n3_; clear ho hb hg hat; obtain ⟨Ao25, co25, eo25⟩ := Kd.R_slice HO_4.out; subst eo25; have p200 : 0 ≤ (x22_2 : Int) := of_decide_eq_true (by first | (with_reducible assumption) | assumption); have q200 : x22_2 < (x4_2.length : Int) := of_decide_eq_true (by first | (with_reducible assumption) | assumption); obtain ⟨ad200, e200, hx200_0⟩ := Kd.at_int (Kd.R_reads' HO_4.out).2.2 x22_2 p200 q200; cases e200; replace p200 := eq_true p200; replace q200 := eq_true q200; have p23 : 0 ≤ (x22_2 : Int) := of_decide_eq_true (by first | (with_reducible assumption) | assumption); have q23 : (x22_2 : Int) < ((x4_2.length : Int) : Int) := of_decide_eq_true (by first | (with_reducible assumption) | assumption); obtain ⟨go23, co23, eo23, gb23, gl23, cl23, HG23⟩ := Kd.R_form HO_4.out (by omega); (first | cases eo23 | (injection eo23 with ea_ en_ ec_; (first | subst ea_ | (injection ea_ with ea_; subst ea_)); subst ec_; clear en_)); have GB23 := Aside0.mk gb23; have GG23 := Aside0.mk HG23; clear gb23 gl23 HG23; (first | simp only [add_plain] at hx200_0 | skip); obtain ⟨hx23_0, hf23_0⟩ := Kd.R_celln 0 HO_4.out (x22_2 : Int) p23 q23; replace p23 := eq_true p23; replace q23 := eq_true q23; have n_ := Aside0.mk (Kd.R_mono (ok' := (fun k_ => some k_ ≠ (v198 : Value).ownBlock)) HO_4.out (fun k_ hk => hk.2)); clear HO_4; have HO_4 := n_; clear n_; obtain ⟨hy26_, hz26_⟩ := Kd.R_celln 0 HO_4.out (x22_2 : Int) (of_decide_eq_true (by first | (with_reducible assumption) | assumption)) (of_decide_eq_true (by first | (with_reducible assumption) | assumption)); have HP26 := Kd.R_putg HO_4.out (x22_2 : Int) (wrap64 ((rd x4_2 x22_2) + (rd (rd_L1 l0 x16_1) x22_2)))) | ((with_reducible refine gate_store (t := 3) (p := 57) rfl ?_); refine store_event (t := 3) (p := 57) (v := ?vo_w27) (w1 := (w24.setCell ⟨go23, (x22_2 : Int).toNat, none⟩ (.int .i64 (wrap64 ((rd x4_2 x22_2) + (rd (rd_L1 l0 x16_1) x22_2)))))) ?hg ?ho ?hn ?hr ?_; (case ho => rfl); (case hg => rfl); (case hn => rfl); (case hr => first | (go_simp; done) | (go_simp; rfl)); intro w27 hw; have hg : w24.grownBy w27 (some go23) := (by rw [hw]; exact HP26.2); have hp_ : Kd.R (Kd.int .i64) 3 w27 w.heap.size (fun k_ => some k_ ≠ (v198 : Value).ownBlock) (.slice (some ⟨go23, 0, none⟩) x4_2.length co25) y201 := (by rw [hw, Ny201.out]; exact HP26.1); clear HP26; have n0_ := Aside0.mk (Kd.S_after (v := (.slice (some ⟨go23, 0, none⟩) x4_2.length co25)) (v1 := (.slice (some ⟨go23, 0, none⟩) x4_2.length co25)) (ok := (fun k_ => some k_ ≠ (v198 : Value).ownBlock)) (by (with_reducible repeat (first | apply Kd.S_alloc | apply Kd.S_drewN | apply Kd.S_drew)); exact Kd.S_mono HO_3.out (fun _ hk => ⟨hk.2, hk.1⟩)) hg (.inl rfl)); have n1_ := Aside0.mk (hp_); have n2_ := Aside0.mk (Kd.R_after (v := (.slice (some ⟨go23, 0, none⟩) x4_2.length co25)) (v1 := (.slice (some ⟨go23, 0, none⟩) x4_2.length co25)) (ok := (fun _ => True)) (by (with_reducible repeat (first | apply Kd.R_alloc | apply Kd.R_drewN | apply Kd.R_drew)); exact Kd.R_mono HO199.out (fun _ hk => ⟨trivial, hk⟩)) hg (.inl rfl)); have n3_ := Aside0.mk ((by rw [hw]; exact below_set (HB.out) GB23.out : Below w.heap.size w w27)); clear HO_3; clear HO_4; clear HO199; clear HB; have HO_3 := n0_; have HO_4 := n1_; have HO199 := n2_; have HB := n3_; clear n0_ n1_ n2_ n3_; clear hg hw hp_))
                 go_roundg k2
                 case measure => have := HK1.out; have := HK2.out; omega
                 case rel => exact ⟨(y201), (y197), (wrap64 (x8_2 + (rd (rd_L1 l0 x16_1) x22_2))), (wrap64 (x22_2 + 1)), (by first | rfl | (simp; done) | (simp [*]; done)), (by first | rfl | (simp; done) | (simp [*]; done)), H', ⟨by have := HK1.out; have := HK2.out; omega⟩, ⟨by (with_reducible repeat (first | apply Kd.S_alloc | apply Kd.S_drewN | apply Kd.S_drew)); exact Kd.S_mono HO_3.out (fun _ hk => ⟨hk.2, hk.1⟩)⟩, ⟨by (with_reducible repeat (first | apply Kd.R_alloc | apply Kd.R_drewN | apply Kd.R_drew)); exact HO_4.out⟩, ⟨by (with_reducible repeat (first | apply Kd.R_alloc | apply Kd.R_drewN | apply Kd.R_drew)); exact Kd.R_mono HO199.out (fun _ hk => hk.2)⟩, ⟨by repeat (first | (with_reducible first | exact HB.out | apply below_alloc | apply pw_below_drewN | apply below_drew1) | exact HB.out)⟩⟩
                ·rw [if_neg c22] at H
                 exact absurd H (by simp)
               ·rw [if_neg c21] at H
                exact absurd H (by simp)
              ·rw [if_neg c20] at H
               have c20b0 : ((rd (rd_L1 l0 x16_1) x22_2) == (-1)) = false := beq_eq_false_iff_ne.mpr c20
               have c20b1 : ((rd (rd_L1 l0 x16_1) x22_2) != (-1)) = true := bne_iff_ne.mpr c20
               by_cases c28 : x22_2 < (x4_2.length : Int)
               ·rw [if_pos c28] at H
                have c28b0 : decide (x22_2 < (x4_2.length : Int)) = true := decide_eq_true c28
                clear c28
                by_cases c29 : x7_2.length < 17592186044416
                ·rw [if_pos c29] at H
                 have LMc29 := Aside0.mk c29
                 clear c29
                 obtain ⟨y203, hy203⟩ : ∃ y_ : List Int, y_ = (x7_2 ++ [wrap64 ((wrap64 (2 * x8_2)) + (rd x4_2 x22_2))]) := ⟨_, rfl⟩
                 replace H : (spec_weKinds.l1 k2 x3_1 (x4_2.set (x22_2 : Int).toNat (wrap64 ((rd x4_2 x22_2) + (rd (rd_L1 l0 x16_1) x22_2)))) y203 (wrap64 (x8_2 + (rd (rd_L1 l0 x16_1) x22_2))) l0 (l0.length : Int) x16_1 (rd_L1 l0 x16_1) ((rd_L1 l0 x16_1).length : Int) (wrap64 (x22_2 + 1))) = some r := by first | (rw [hy203]; with_reducible exact H) | (have H2_ := (Option.bind_some _ _).symm.trans H; rw [hy203]; with_reducible exact H2_) | (have H2_ := (Option.bind_some _ _).symm.trans H; with_reducible exact H2_) | with_reducible exact H | (rw [hy203]; exact H) | exact H
                 have Ny203 := Aside0.mk hy203
                 clear hy203
                 obtain ⟨y207, hy207⟩ : ∃ y_ : List Int, y_ = (x4_2.set (x22_2 : Int).toNat (wrap64 ((rd x4_2 x22_2) + (rd (rd_L1 l0 x16_1) x22_2)))) := ⟨_, rfl⟩
                 replace H : (spec_weKinds.l1 k2 x3_1 y207 y203 (wrap64 (x8_2 + (rd (rd_L1 l0 x16_1) x22_2))) l0 (l0.length : Int) x16_1 (rd_L1 l0 x16_1) ((rd_L1 l0 x16_1).length : Int) (wrap64 (x22_2 + 1))) = some r := by first | (rw [hy207]; with_reducible exact H) | (have H2_ := (Option.bind_some _ _).symm.trans H; rw [hy207]; with_reducible exact H2_) | (have H2_ := (Option.bind_some _ _).symm.trans H; with_reducible exact H2_) | with_reducible exact H | (rw [hy207]; exact H) | exact H
                 have Ny207 := Aside0.mk hy207
                 clear hy207
                 have H' := Aside0.mk H
                 clear H
                 have p191 : 0 ≤ (x22_2 : Int) := of_decide_eq_true (by first | (with_reducible assumption) | assumption)
                 have q191 : x22_2 < ((rd_L1 l0 x16_1).length : Int) := of_decide_eq_true (by first | (with_reducible assumption) | assumption)
                 obtain ⟨ad191, e191, hx191_0⟩ := Kd.at_int HR187_0.out x22_2 p191 q191
                 cases e191
                 (try replace hx191_0 := (HB.out.cell (World.block_lt_of_cell? w _ hx191_0)).trans hx191_0)
                 replace p191 := eq_true p191
                 replace q191 := eq_true q191
                 obtain ⟨Ao31, co31, eo31⟩ := Kd.R_slice HO_4.out
                 subst eo31
                 have p202 : 0 ≤ (x22_2 : Int) := of_decide_eq_true (by first | (with_reducible assumption) | assumption)
                 have q202 : x22_2 < (x4_2.length : Int) := of_decide_eq_true (by first | (with_reducible assumption) | assumption)
                 obtain ⟨ad202, e202, hx202_0⟩ := Kd.at_int (Kd.R_reads' HO_4.out).2.2 x22_2 p202 q202
                 cases e202
                 replace p202 := eq_true p202
                 replace q202 := eq_true q202
                 go_wp2_with (first | ((with_reducible refine gate_builtin (b := .append) (xs := #[.tmp 28, .tmp 36]) rfl ?_); at_builtin; refine Kd.R_append (Kd.int .i64) (w0 := w) w.heap.size rfl (.tmp 28) (.tmp 36) 22 3 (.int .i64 0) 8 rfl Try.underlying22 info3 rfl (by decide) (by omega) u7 x7_2 (wrap64 ((wrap64 (2 * x8_2)) + (rd x4_2 x22_2))) [.int .i64 (wrap64 ((wrap64 (2 * x8_2)) + (rd x4_2 x22_2)))] (fun k_ => some k_ ≠ (.slice (some ad202) x4_2.length co31 : Value).ownBlock) (fun _ => False) rfl rfl ?aP (fun _ hk => hk.elim) ?aF ?aO ?aB ?aS ?aL ?_; (case aP => exact rfl); (case aB => exact (by repeat (first | (with_reducible first | exact HB.out | apply below_alloc | apply pw_below_drewN | apply below_drew1) | exact HB.out))); (case aF => exact (fun k_ hk => Kd.fresh' (Kd.R_lt (by (with_reducible repeat (first | apply Kd.R_alloc | apply Kd.R_drewN | apply Kd.R_drew)); exact HO_4.out)) k_ hk)); (case aO => exact (by (with_reducible repeat (first | apply Kd.R_alloc | apply Kd.R_drewN | apply Kd.R_drew)); exact HO_7.out)); (case aS => exact (below_size (by repeat (first | (with_reducible first | exact HB.out | apply below_alloc | apply pw_below_drewN | apply below_drew1) | exact HB.out)))); (case aL => have := LMc29.out; omega); intro v204 w32 ho hb hg hat; rw [← Ny203.out] at ho; have n0_ := Aside0.mk (Kd.S_after (ok := (fun k_ => some k_ ≠ (.slice (some ad202) x4_2.length co31 : Value).ownBlock)) (by (with_reducible repeat (first | apply Kd.S_alloc | apply Kd.S_drewN | apply Kd.S_drew)); exact HO_3.out) hg hat); have n1_ := Aside0.mk (Kd.R_after (ok := (fun _ => True)) (by (with_reducible repeat (first | apply Kd.R_alloc | apply Kd.R_drewN | apply Kd.R_drew)); exact Kd.R_mono HO_4.out (fun _ hk => ⟨trivial, hk⟩)) hg hat); have n2_ := Aside0.mk (hb); have n3_ := Aside0.mk (ho); clear HO_3; clear HO_4; clear HB; clear HO_7; have HO_3 := n0_; have HO_4 := n1_; have HB := n2_; have HO205 := n3_; clear n0_ n1_ n2_ n3_; clear ho hb hg hat; have p206 : 0 ≤ (x22_2 : Int) := of_decide_eq_true (by first | (with_reducible assumption) | assumption); have q206 : x22_2 < (x4_2.length : Int) := of_decide_eq_true (by first | (with_reducible assumption) | assumption); obtain ⟨ad206, e206, hx206_0⟩ := Kd.at_int (Kd.R_reads' HO_4.out).2.2 x22_2 p206 q206; obtain rfl : ad202 = ad206 := (by injection e206); replace p206 := eq_true p206; replace q206 := eq_true q206; have p30 : 0 ≤ (x22_2 : Int) := of_decide_eq_true (by first | (with_reducible assumption) | assumption); have q30 : (x22_2 : Int) < ((x4_2.length : Int) : Int) := of_decide_eq_true (by first | (with_reducible assumption) | assumption); obtain ⟨go30, co30, eo30, gb30, gl30, cl30, HG30⟩ := Kd.R_form HO_4.out (by omega); (first | cases eo30 | (injection eo30 with ea_ en_ ec_; (first | subst ea_ | (injection ea_ with ea_; subst ea_)); subst ec_; clear en_)); have GB30 := Aside0.mk gb30; have GG30 := Aside0.mk HG30; clear gb30 gl30 HG30; (first | simp only [add_plain] at hx202_0 | skip); (first | simp only [add_plain] at hx206_0 | skip); obtain ⟨hx30_0, hf30_0⟩ := Kd.R_celln 0 HO_4.out (x22_2 : Int) p30 q30; replace p30 := eq_true p30; replace q30 := eq_true q30; have n_ := Aside0.mk (Kd.R_mono (ok' := (fun k_ => some k_ ≠ (v204 : Value).ownBlock)) HO_4.out (fun k_ hk => hk.2)); clear HO_4; have HO_4 := n_; clear n_; obtain ⟨hy33_, hz33_⟩ := Kd.R_celln 0 HO_4.out (x22_2 : Int) (of_decide_eq_true (by first | (with_reducible assumption) | assumption)) (of_decide_eq_true (by first | (with_reducible assumption) | assumption)); have HP33 := Kd.R_putg HO_4.out (x22_2 : Int) (wrap64 ((rd x4_2 x22_2) + (rd (rd_L1 l0 x16_1) x22_2)))) | ((with_reducible refine gate_store (t := 3) (p := 57) rfl ?_); refine store_event (t := 3) (p := 57) (v := ?vo_w34) (w1 := (w32.setCell ⟨go30, (x22_2 : Int).toNat, none⟩ (.int .i64 (wrap64 ((rd x4_2 x22_2) + (rd (rd_L1 l0 x16_1) x22_2)))))) ?hg ?ho ?hn ?hr ?_; (case ho => rfl); (case hg => rfl); (case hn => rfl); (case hr => first | (go_simp; done) | (go_simp; rfl)); intro w34 hw; have hg : w32.grownBy w34 (some go30) := (by rw [hw]; exact HP33.2); have hp_ : Kd.R (Kd.int .i64) 3 w34 w.heap.size (fun k_ => some k_ ≠ (v204 : Value).ownBlock) (.slice (some ⟨go30, 0, none⟩) x4_2.length co31) y207 := (by rw [hw, Ny207.out]; exact HP33.1); clear HP33; have n0_ := Aside0.mk (Kd.S_after (v := (.slice (some ⟨go30, 0, none⟩) x4_2.length co31)) (v1 := (.slice (some ⟨go30, 0, none⟩) x4_2.length co31)) (ok := (fun k_ => some k_ ≠ (v204 : Value).ownBlock)) (by (with_reducible repeat (first | apply Kd.S_alloc | apply Kd.S_drewN | apply Kd.S_drew)); exact Kd.S_mono HO_3.out (fun _ hk => ⟨hk.2, hk.1⟩)) hg (.inl rfl)); have n1_ := Aside0.mk (hp_); have n2_ := Aside0.mk (Kd.R_after (v := (.slice (some ⟨go30, 0, none⟩) x4_2.length co31)) (v1 := (.slice (some ⟨go30, 0, none⟩) x4_2.length co31)) (ok := (fun _ => True)) (by (with_reducible repeat (first | apply Kd.R_alloc | apply Kd.R_drewN | apply Kd.R_drew)); exact Kd.R_mono HO205.out (fun _ hk => ⟨trivial, hk⟩)) hg (.inl rfl)); have n3_ := Aside0.mk ((by rw [hw]; exact below_set (HB.out) GB30.out : Below w.heap.size w w34)); clear HO_3; clear HO_4; clear HO205; clear HB; have HO_3 := n0_; have HO_4 := n1_; have HO205 := n2_; have HB := n3_; clear n0_ n1_ n2_ n3_; clear hg hw hp_))
                 go_roundg k2
                 case measure => have := HK1.out; have := HK2.out; omega
                 case rel => exact ⟨(y207), (y203), (wrap64 (x8_2 + (rd (rd_L1 l0 x16_1) x22_2))), (wrap64 (x22_2 + 1)), (by first | rfl | (simp; done) | (simp [*]; done)), (by first | rfl | (simp; done) | (simp [*]; done)), H', ⟨by have := HK1.out; have := HK2.out; omega⟩, ⟨by (with_reducible repeat (first | apply Kd.S_alloc | apply Kd.S_drewN | apply Kd.S_drew)); exact Kd.S_mono HO_3.out (fun _ hk => ⟨hk.2, hk.1⟩)⟩, ⟨by (with_reducible repeat (first | apply Kd.R_alloc | apply Kd.R_drewN | apply Kd.R_drew)); exact HO_4.out⟩, ⟨by (with_reducible repeat (first | apply Kd.R_alloc | apply Kd.R_drewN | apply Kd.R_drew)); exact Kd.R_mono HO205.out (fun _ hk => hk.2)⟩, ⟨by repeat (first | (with_reducible first | exact HB.out | apply below_alloc | apply pw_below_drewN | apply below_drew1) | exact HB.out)⟩⟩
                ·rw [if_neg c29] at H
                 exact absurd H (by simp)
               ·rw [if_neg c28] at H
                exact absurd H (by simp)
            ·rw [if_neg c11] at H
             exact absurd H (by simp)
           ·rw [if_neg c10] at H
            exact absurd H (by simp)
          ·rw [if_neg c9] at H
           have c9b0 : decide (x22_2 < ((rd_L1 l0 x16_1).length : Int)) = false := decide_eq_false c9
           clear c9
           by_cases c35 : x3_1.length < 5864062014805
           ·rw [if_pos c35] at H
            have LMc35 := Aside0.mk c35
            clear c35
            obtain ⟨y188, hy188⟩ : ∃ y_ : List (List Int), y_ = (x3_1 ++ [x7_2]) := ⟨_, rfl⟩
            replace H : (spec_weKinds.l0 k2 y188 x4_2 l0 (l0.length : Int) (wrap64 (x16_1 + 1))) = some r := by first | (rw [hy188]; with_reducible exact H) | (have H2_ := (Option.bind_some _ _).symm.trans H; rw [hy188]; with_reducible exact H2_) | (have H2_ := (Option.bind_some _ _).symm.trans H; with_reducible exact H2_) | with_reducible exact H | (rw [hy188]; exact H) | exact H
            have Ny188 := Aside0.mk hy188
            clear hy188
            have H' := Aside0.mk H
            clear H
            obtain ⟨Ao37, co37, eo37⟩ := Kd.R_slice HO_7.out
            subst eo37
            go_wp2_with (first | ((with_reducible refine gate_builtin (b := .append) (xs := #[.tmp 59, .tmp 61]) rfl ?_); at_builtin; refine Kd.S_append (Kd.slice 3 (Kd.int .i64)) (w0 := w) w.heap.size rfl (.tmp 59) (.tmp 61) 36 22 (.slice none 0 0) 24 rfl Try.underlying36 info22 rfl (by decide) (by omega) u3 x3_1 x7_2 [.slice Ao37 x7_2.length co37] (fun k_ => some k_ ≠ (v185 : Value).ownBlock) (fun k_ => some k_ = (.slice Ao37 x7_2.length co37 : Value).ownBlock) rfl rfl ?aP (fun k_ hk_ => ((Kd.R_mono (ok' := fun k_ => ((fun k_ => some k_ ≠ (v185 : Value).ownBlock)) k_ ∧ some k_ ≠ (u3 : Value).ownBlock) (Kd.R_apart' (HO_7.out) (Kd.S_typed HO_3.out) (by decide)) (fun k_ hk => ⟨hk.1, hk.2⟩))).1 k_ hk_.symm) ?aF ?aO ?aB ?aS ?aL ?_; (case aP => exact Kd.M_row (Kd.R_mono (Kd.R_tight rfl (Kd.R_mono (ok' := fun k_ => ((fun k_ => some k_ ≠ (v185 : Value).ownBlock)) k_ ∧ some k_ ≠ (u3 : Value).ownBlock) (Kd.R_apart' (HO_7.out) (Kd.S_typed HO_3.out) (by decide)) (fun k_ hk => ⟨hk.1, hk.2⟩))) (fun _ h_ => h_))); (case aB => exact (by repeat (first | (with_reducible first | exact HB.out | apply below_alloc | apply pw_below_drewN | apply below_drew1) | exact HB.out))); (case aF => exact (fun k_ hk => Kd.fresh' (Kd.R_lt (by (with_reducible repeat (first | apply Kd.R_alloc | apply Kd.R_drewN | apply Kd.R_drew)); exact HO_4.out)) k_ hk)); (case aO => exact (by (with_reducible repeat (first | apply Kd.S_alloc | apply Kd.S_drewN | apply Kd.S_drew)); exact Kd.S_mono HO_3.out (fun k_ hk => ⟨hk.1, fun e_ => hk.2 e_⟩))); (case aS => exact (below_size (by repeat (first | (with_reducible first | exact HB.out | apply below_alloc | apply pw_below_drewN | apply below_drew1) | exact HB.out)))); (case aL => have := LMc35.out; omega); intro v189 w36 ho hb hg hat; rw [← Ny188.out] at ho; have n0_ := Aside0.mk (Kd.R_over' (by (with_reducible repeat (first | apply Kd.R_alloc | apply Kd.R_drewN | apply Kd.R_drew)); exact HO_4.out) (Kd.S_typed (by (with_reducible repeat (first | apply Kd.S_alloc | apply Kd.S_drewN | apply Kd.S_drew)); exact HO_3.out)) (by decide) hg); have n1_ := Aside0.mk (hb); have n2_ := Aside0.mk (ho); clear HO_4; clear HB; clear HO_3; clear HO_7; have HO_4 := n0_; have HB := n1_; have HO190 := n2_; clear n0_ n1_ n2_; clear ho hb hg hat))
            go_roundg k2
            case measure => have := HK1.out; have := HK2.out; omega
            case rel => exact ⟨(y188), (x4_2), (wrap64 (x16_1 + 1)), (by first | rfl | (simp; done) | (simp [*]; done)), H', ⟨by have := HK1.out; have := HK2.out; omega⟩, ⟨by (with_reducible repeat (first | apply Kd.S_alloc | apply Kd.S_drewN | apply Kd.S_drew)); exact HO190.out⟩, ⟨by (with_reducible repeat (first | apply Kd.R_alloc | apply Kd.R_drewN | apply Kd.R_drew)); exact Kd.R_mono HO_4.out (fun _ hk => trivial)⟩, ⟨by repeat (first | (with_reducible first | exact HB.out | apply below_alloc | apply pw_below_drewN | apply below_drew1) | exact HB.out)⟩⟩
           ·rw [if_neg c35] at H
            exact absurd H (by simp)
       ·rw [if_neg c8] at H
        exact absurd H (by simp)
      ·rw [if_neg c7] at H
       exact absurd H (by simp)
     ·rw [if_neg c6] at H
      have c6b0 : decide (x16_1 < (l0.length : Int)) = false := decide_eq_false c6
      clear c6
      obtain rfl := Option.some.inj H
      go_wp2
      go_ret
      exact ⟨_, by first | rfl | (simp [errW_none, errW_some] <;> rfl) | (simp [*, errW_none, errW_some] <;> rfl), by (with_reducible repeat (first | apply Kd.S_alloc | apply Kd.S_drewN | apply Kd.S_drew)); exact Kd.S_mono HO_3.out (fun _ hk => trivial), by repeat (first | (with_reducible first | exact HB.out | apply below_alloc | apply pw_below_drewN | apply below_drew1) | exact HB.out)⟩
  ·rw [if_neg c3] at H
   exact absurd H (by simp)
 ·rw [if_neg c2] at H
  exact absurd H (by simp)

end Go.Proofs.Ytdcdkckpmkfjdaa.P
