/- Texts of one chain, in build order. -/
import Derived.Test.YtkiloimggmpggaaYLambdaSum21
namespace Go.Proofs.Ytkiloimggmpggaa
open Go.RowKit Go.Proofs.Ytkiloimggmpggaa.P Go.Proofs.Ytkiloimggmpggaa.L Go.Proofs.YtkiloimggmpggaaW.PrintWords Go.Proofs.YtkiloimggmpggaaW.PrintLast Go.Proofs.YtkiloimggmpggaaW.PrintMore
set_option linter.unusedVariables false
set_option linter.unusedSimpArgs false
theorem blk_drewU {w : World} {g : Nat} {o : Obj} (h : w.heap[g]? = some o) : w.drew.heap[g]? = some o := h
theorem cell_farU {W : World} {p q : Addr} {u v : Value} (h : W.cell? q = some v) (hn : q.block ≠ p.block) : (W.setCell p u).cell? q = some v := by
  unfold World.cell? at h ⊢; rw [Below.heap_setCell W p u _ hn]; exact h
theorem cell_allocU {W : World} {q : Addr} {v : Value} {o : Obj} (h : W.cell? q = some v) : (W.alloc o).cell? q = some v := pw_cell_below (below_alloc (Below.refl _ _) _) h
theorem aux_have {p q : Prop} (h : p) (k : p → q) : q := k h
theorem es_ne {W : World} {a b s t : Nat} {x y : Array Value} (h : W.heap[a]? = some (.cells x s (0, 0))) (k : W.heap[b]? = some (.cells y t (0, 0))) (hst : s ≠ t) : a ≠ b := by
  rintro rfl; rw [h] at k; injection k with k; injection k with _ k; exact hst k
theorem es_fin (St : Nat → World → (Nat → Prop) → Prop) (hSt : Stays St) (n cr g : Nat) (lb : Array Value) (R : List (List Int)) (hn : n ≤ 100) (hR : R.length ≤ 1000) (All : List (List (List Int)))
    (eg : ∀ args w, (callFunc g args).run Try.prog w = .ok (.enter g args) w)
    (hf : ∀ (j : Nat) (T : List (List Int)) (A : Option Addr) (c : Nat) (W : World) (ok : Nat → Prop), All[j]? = some T → St j W ok → Kd.F (Kd.slice 3 (Kd.int .i64)) W (fun k => ¬ ok k ∧ k < W.heap.size) A T.length T → T.length ≤ c → Calls Try.prog g (#[.slice A T.length c] ++ lb) W (Stepped St (j + 1) W ok))
    (k : Nat) (hE : esE k n R [] (List.replicate n 0) = some All) (hk : k ≤ 100000) (w W6 : World) (ok : Nat → Prop) (hst : St 0 w ok) {Ar : Option Addr} {br bs be gs : Nat} (hb : Below w.heap.size w W6)
    (h1 : W6.heap[w.heap.size]? = some (.cells #[.int .i64 n] 3 (0, 0))) (h2 : W6.heap[w.heap.size + 1]? = some (.cells #[.func (.func g) #[] lb] 39 (0, 0)))
    (h3 : W6.heap[br]? = some (.cells #[.slice Ar R.length cr] 22 (0, 0))) (h4 : W6.heap[bs]? = some (.cells #[.slice (some ⟨gs, 0, none⟩) n n] 38 (0, 0)))
    (h5 : W6.heap[be]? = some (.cells #[.func (.func 56) #[] #[.pointer (some ⟨w.heap.size, 0, none⟩), .pointer (some ⟨w.heap.size + 1, 0, none⟩), .pointer (some ⟨br, 0, none⟩), .pointer (some ⟨bs, 0, none⟩), .pointer (some ⟨be, 0, none⟩)]] 39 (0, 0)))
    (h6 : W6.heap[gs]? = some (.cells (madeCells #[.int .i64 0] n) 3 (0, 0))) (hlo : w.heap.size < br ∧ w.heap.size < bs ∧ w.heap.size < be ∧ w.heap.size < gs)
    (hF : Kd.F (Kd.slice 3 (Kd.int .i64)) W6 (fun k => w.heap.size ≤ k ∧ k ≠ gs) Ar R.length R) (hc : R.length ≤ cr) :
    Calls Try.prog 56 #[.slice none 0 0, .pointer (some ⟨w.heap.size, 0, none⟩), .pointer (some ⟨w.heap.size + 1, 0, none⟩), .pointer (some ⟨br, 0, none⟩), .pointer (some ⟨bs, 0, none⟩), .pointer (some ⟨be, 0, none⟩)] W6
      (fun e w' => e = .returned (.bool true) ∧ ∃ ok', St All.length w' ok' ∧ Touch w w' ok ∧ ∀ k, ok' k → ok k ∨ w.heap.size ≤ k) := by
  have hlt := hSt.lt hst
  have hI : intBlk W6 gs (List.replicate n 0) := by unfold intBlk; rw [h6, madeInts]
  have hsz := hb.size
  have henv : EsEnv W6 w.heap.size (w.heap.size + 1) br bs be gs n cr g lb Ar R := ⟨h1, h2, h3, h4, h5⟩
  have hno : ∀ q, w.heap.size ≤ q → ¬ ok q := fun q h h' => by have := hlt q h'; omega
  have hE2 : envE w.heap.size (w.heap.size + 1) br bs be gs ok := ⟨⟨hno _ (by omega), hno _ (by omega), hno _ (by omega), hno _ (by omega), hno _ (by omega), hno _ (by omega)⟩, by omega, es_ne h2 h6 (by decide), es_ne h3 h6 (by decide), es_ne h4 h6 (by decide), es_ne h5 h6 (by decide)⟩
  refine (eachSigns_1.calls St hSt n cr g lb Ar R hn hR hc w.heap.size (w.heap.size + 1) br bs be gs All eg hf k [] (List.replicate n 0) All 0 none 0 W6 ok hE (by simpa using hk) (by simp) (fun i _ => by simp) henv hI hE2 (hSt.below hst hb) (Kd.F_mono (Kd.F_bound hF) (fun k h => ⟨⟨hno k h.1.1, h.1.2⟩, h.2⟩)) (Kd.F_nil _ _ _) (Nat.le_refl _)).mono ?_
  rintro e w' ⟨rfl, ok', hs', hi', ht', ho'⟩
  refine ⟨rfl, ok', by simpa using hs', (Touch.of_below hb ok).trans ht' (fun k h => h.elim .inl (fun h => .inr (by omega))), fun k h => (ho' k h).imp id (fun h => by omega)⟩
theorem hs_alloc {W w1 : World} {k : Nat} {o : Obj} (h : W.heap[k]? = w1.heap[k]?) (hk : k < W.heap.size) : (W.alloc o).heap[k]? = w1.heap[k]? := ((below_alloc (Below.refl W.heap.size W) o).block k hk).trans h
theorem hs_set {W w1 : World} {k : Nat} {p : Addr} {u : Value} (h : W.heap[k]? = w1.heap[k]?) (hk : k ≠ p.block) : (W.setCell p u).heap[k]? = w1.heap[k]? := (Below.heap_setCell W p u k hk).trans h
theorem put1 {W : World} {g t : Nat} {v : Value} (h : W.heap[g]? = some (.cells #[.slice none 0 0] t (0, 0))) : (W.setCell ⟨g, 0, none⟩ v).heap[g]? = some (.cells #[v] t (0, 0)) := blk_put h 0 v rfl
theorem farU {W : World} {g : Nat} {o : Obj} {p : Addr} {u : Value} (h : W.heap[g]? = some o) (hn : g ≠ p.block) : (W.setCell p u).heap[g]? = some o := (Below.heap_setCell W p u g hn).trans h
theorem farU2 {W : World} {g : Nat} {o : Obj} {p : Addr} {u : Value} (hn : g ≠ p.block) (h : W.heap[g]? = some o) : (W.setCell p u).heap[g]? = some o := farU h hn
theorem es_lo {α : Type} {d : Kd α} {W : World} {a b n : Nat} {A : Option Addr} {xs : List α} (h : Kd.F d W (fun k => a ≤ k ∧ k < b) A n xs) : ∃ lo hi, lo = a ∧ hi = b ∧ Kd.F d W (fun k => lo ≤ k ∧ k < hi) A n xs := ⟨a, b, rfl, rfl, h⟩
set_option maxHeartbeats 40000000 in
set_option maxRecDepth 100000 in
theorem impl_eachSigns.callsG (n : Nat) (hn : n ≤ 100) (R : List (List Int)) (g : Nat) (lb : Array Value) (w : World)
    (hsr : ∀ w : World, Calls Try.prog 55 #[.int .i64 n] w (RetNR w R))
    (St : Nat → World → (Nat → Prop) → Prop) (hSt : Stays St) (hR : R.length ≤ 1000) (All : List (List (List Int)))
    (eg : ∀ args w, (callFunc g args).run Try.prog w = .ok (.enter g args) w)
    (hf : ∀ (j : Nat) (T : List (List Int)) (A : Option Addr) (c : Nat) (W : World) (ok : Nat → Prop), All[j]? = some T → St j W ok → Kd.F (Kd.slice 3 (Kd.int .i64)) W (fun k => ¬ ok k ∧ k < W.heap.size) A T.length T → T.length ≤ c → Calls Try.prog g (#[.slice A T.length c] ++ lb) W (Stepped St (j + 1) W ok))
    (k : Nat) (hE : esE k n R [] (List.replicate n 0) = some All) (hk : k ≤ 100000) (ok : Nat → Prop) (hst : St 0 w ok) :
    Calls Try.prog 32 #[.int .i64 n, .func (.func g) #[] lb] w (EsRet St All.length w ok) := by
  have FIN := Aside0.mk (fun cr W6 Ar br bs be gs => es_fin St hSt n cr g lb R hn hR All eg hf k hE hk w W6 ok hst (Ar := Ar) (br := br) (bs := bs) (be := be) (gs := gs))
  have egE : ∀ args w, (callFunc 56 args).run Try.prog w = .ok (.enter 56 args) w := enters_of Try.func56 (by kernel_rfl) rfl
  have mk1 : ∀ W : World, Sem.run Try.prog (Instr.makeSlice 38 (.int .i64 n) (.int .i64 n)) W = Result.ok (Value.slice (some ⟨W.heap.size, 0, none⟩) n n) (W.alloc (.cells (madeCells #[.int .i64 0] n) 3)) := fun W => run_make_row' (P := Try.prog) 38 3 (.int .i64 0) 8 Try.underlying38 info_ints rfl .i64 .i64 n (by omega) (by omega) W
  have HSR := Aside0.mk hsr
  obtain ⟨wb, hwb⟩ : ∃ wb, wb = (w.alloc (.cells #[.int .i64 n] 3)).alloc (.cells #[.func (.func g) #[] lb] 39) := ⟨_, rfl⟩
  have hk1 : wb.cell? ⟨w.heap.size, 0, none⟩ = some (.int .i64 n) := by rw [hwb]; exact blk_cell (blk_alloc (blk_new_at (by simp)) _) 0
  have HBC := Aside0.mk (Below.refl wb.heap.size wb)
  have hf2 : wb.heap[w.heap.size + 1]? = some (.cells #[.func (.func g) #[] lb] 39 (0, 0)) := by rw [hwb]; exact blk_new_at (by simp)
  have hf1 : wb.heap[w.heap.size]? = some (.cells #[.int .i64 n] 3 (0, 0)) := by rw [hwb]; exact blk_alloc (blk_new_at rfl) _
  have HE1 := Aside0.mk hf1
  have HE2 := Aside0.mk hf2
  clear hsr eg hf hst hE hf1 hf2
  go_enter Try.func32, Try.ntmps32
  subst hwb
  go_upto_region 1 with (fail)
  rename_i K hK
  have REST : ∀ (br bs gs c1 : Nat) (A1 : Option Addr) (w5 : World), R.length ≤ c1 → Below w.heap.size w w5 → w5.heap[w.heap.size]? = some (.cells #[.int .i64 n] 3 (0, 0)) → w5.heap[w.heap.size + 1]? = some (.cells #[.func (.func g) #[] lb] 39 (0, 0)) →
      w5.heap[br]? = some (.cells #[.slice A1 R.length c1] 22 (0, 0)) → w5.heap[bs]? = some (.cells #[.slice (some ⟨gs, 0, none⟩) n n] 38 (0, 0)) → w5.heap[gs]? = some (.cells (madeCells #[.int .i64 0] n) 3 (0, 0)) → (w.heap.size < br ∧ w.heap.size < bs ∧ w.heap.size < gs) →
      Kd.F (Kd.slice 3 (Kd.int .i64)) w5 (fun k => w.heap.size ≤ k ∧ k ≠ gs) A1 R.length R →
      K { tmps := #[.int .i64 n, .func (.func g) #[] lb, .pointer (some ⟨w.heap.size, 0, none⟩), .pointer (some ⟨w.heap.size + 1, 0, none⟩), .pointer (some ⟨br, 0, none⟩), .pointer (some ⟨bs, 0, none⟩), undef, .int .i64 n, .slice A1 R.length c1, .int .i64 n, .slice (some ⟨gs, 0, none⟩) n n, undef, undef, undef], defers := [] } w5 := by
    intro br bs gs c1 A1 w5 hc hb h1 h2 h3 h4 h6 hlo hF
    have hsz := hb.size
    have hcall := FIN.out c1 (w5.alloc (.cells #[.func (.func 56) #[] #[.pointer (some ⟨w.heap.size, 0, none⟩), .pointer (some ⟨w.heap.size + 1, 0, none⟩), .pointer (some ⟨br, 0, none⟩), .pointer (some ⟨bs, 0, none⟩), .pointer (some ⟨w5.heap.size, 0, none⟩)]] 39)) A1 br bs w5.heap.size gs (below_alloc hb _) (blk_alloc h1 _) (blk_alloc h2 _) (blk_alloc h3 _) (blk_alloc h4 _) (blk_new_at rfl) (blk_alloc h6 _) ⟨hlo.1, hlo.2.1, by have := blk_lt h3; omega, hlo.2.2⟩ (Kd.F_below hF (below_alloc (Below.refl _ _) _)) hc
    have HCALL := Aside0.mk hcall
    clear hcall hc hb h1 h2 h3 h4 h6 hlo hF
    refine hK _ _ ?_
    go_wp2_with (go_at_fn 56; refine HCALL.out.mono ?_; rintro e w7 ⟨rfl, ok7, hs7, ht7, ho7⟩; have HS7 := Aside0.mk hs7; have HT7 := Aside0.mk ht7; have HO7 := Aside0.mk ho7; clear hs7 ht7 ho7)
    go_end0
    exact ⟨rfl, ok7, HS7.out, HT7.out, HO7.out⟩
  go_region_held3 (fun W1 => W1.cell? ⟨w.heap.size, 0, none⟩ = some (.int .i64 n) ∧ True) (first | (exact ⟨hk1, trivial⟩) | (exact ⟨hq1, trivial⟩) | (refine ⟨?_, trivial⟩; repeat' (first | exact hq1 | exact hk1 | refine cell_allocU ?_ | refine cell_farU ?_ ?_ | omega | (simp; omega)))) (first
      | (go_at_call 55
         refine (HSR.out _).mono ?_
         rintro e w1 ⟨v1, rfl, hN1, hb1⟩
         obtain ⟨A1, c1, rfl⟩ := Kd.N_slice hN1
         have hq1 : w1.cell? ⟨w.heap.size, 0, none⟩ = some (.int .i64 n) := pw_cell_below hb1 (by first | exact hk1 | exact pw_cell_below (below_alloc (Below.refl _ _) _) hk1 | exact pw_cell_below (below_alloc (below_alloc (Below.refl _ _) _) _) hk1 | exact pw_cell_below (below_alloc (below_alloc (below_alloc (Below.refl _ _) _) _) _) hk1)
         have hlt1 : w.heap.size < w1.heap.size := (by have h_ := hb1.size; simp at h_; omega)
         have hlu1 := Nat.lt_succ_of_lt hlt1
         have hlv1 := Nat.lt_succ_of_lt hlu1
         (try (refine aux_have (p := w1.heap[w.heap.size + 1 + 1]? = some (.cells #[.slice none 0 0] 22 (0, 0))) ?_ (fun hxr0 => ?_); (refine blk_below ?_ hb1; (try refine blk_drewU ?_); first | (refine blk_new_at ?_; focus (simp; done)) | (refine blk_alloc (blk_new_at ?_) _; focus (simp; done)) | (refine blk_alloc (blk_alloc (blk_new_at ?_) _) _; focus (simp; done))); have hxcr0 : w1.cell? ⟨w.heap.size + 1 + 1, 0, none⟩ = some (.slice none 0 0) := blk_cell hxr0 0; have hxfr0 : w1.frozen? ⟨w.heap.size + 1 + 1, 0, none⟩ = false := blk_frozen hxr0 0; have hltr0 := blk_lt hxr0; have hlur0 := Nat.lt_succ_of_lt hltr0; have hlvr0 := Nat.lt_succ_of_lt hlur0; have HXr0 := Aside0.mk hxr0; clear hxr0))
         (try (refine aux_have (p := w1.heap[w.heap.size + 1 + 1]? = some (.cells #[.slice none 0 0] 38 (0, 0))) ?_ (fun hxs0 => ?_); (refine blk_below ?_ hb1; (try refine blk_drewU ?_); first | (refine blk_new_at ?_; focus (simp; done)) | (refine blk_alloc (blk_new_at ?_) _; focus (simp; done)) | (refine blk_alloc (blk_alloc (blk_new_at ?_) _) _; focus (simp; done))); have hxcs0 : w1.cell? ⟨w.heap.size + 1 + 1, 0, none⟩ = some (.slice none 0 0) := blk_cell hxs0 0; have hxfs0 : w1.frozen? ⟨w.heap.size + 1 + 1, 0, none⟩ = false := blk_frozen hxs0 0; have hlts0 := blk_lt hxs0; have hlus0 := Nat.lt_succ_of_lt hlts0; have hlvs0 := Nat.lt_succ_of_lt hlus0; have HXs0 := Aside0.mk hxs0; clear hxs0))
         (try (refine aux_have (p := w1.heap[w.heap.size + 1 + 1]? = some (.cells (madeCells #[.int .i64 0] n) 3 (0, 0))) ?_ (fun hxm0 => ?_); (refine blk_below ?_ hb1; (try refine blk_drewU ?_); first | (refine blk_new_at ?_; focus (simp; done)) | (refine blk_alloc (blk_new_at ?_) _; focus (simp; done)) | (refine blk_alloc (blk_alloc (blk_new_at ?_) _) _; focus (simp; done))); have hltm0 := blk_lt hxm0; have hlum0 := Nat.lt_succ_of_lt hltm0; have hlvm0 := Nat.lt_succ_of_lt hlum0; have HXm0 := Aside0.mk hxm0; clear hxm0))
         (try (refine aux_have (p := w1.heap[w.heap.size + 1 + 1 + 1]? = some (.cells #[.slice none 0 0] 22 (0, 0))) ?_ (fun hxr1 => ?_); (refine blk_below ?_ hb1; (try refine blk_drewU ?_); first | (refine blk_new_at ?_; focus (simp; done)) | (refine blk_alloc (blk_new_at ?_) _; focus (simp; done)) | (refine blk_alloc (blk_alloc (blk_new_at ?_) _) _; focus (simp; done))); have hxcr1 : w1.cell? ⟨w.heap.size + 1 + 1 + 1, 0, none⟩ = some (.slice none 0 0) := blk_cell hxr1 0; have hxfr1 : w1.frozen? ⟨w.heap.size + 1 + 1 + 1, 0, none⟩ = false := blk_frozen hxr1 0; have hltr1 := blk_lt hxr1; have hlur1 := Nat.lt_succ_of_lt hltr1; have hlvr1 := Nat.lt_succ_of_lt hlur1; have HXr1 := Aside0.mk hxr1; clear hxr1))
         (try (refine aux_have (p := w1.heap[w.heap.size + 1 + 1 + 1]? = some (.cells #[.slice none 0 0] 38 (0, 0))) ?_ (fun hxs1 => ?_); (refine blk_below ?_ hb1; (try refine blk_drewU ?_); first | (refine blk_new_at ?_; focus (simp; done)) | (refine blk_alloc (blk_new_at ?_) _; focus (simp; done)) | (refine blk_alloc (blk_alloc (blk_new_at ?_) _) _; focus (simp; done))); have hxcs1 : w1.cell? ⟨w.heap.size + 1 + 1 + 1, 0, none⟩ = some (.slice none 0 0) := blk_cell hxs1 0; have hxfs1 : w1.frozen? ⟨w.heap.size + 1 + 1 + 1, 0, none⟩ = false := blk_frozen hxs1 0; have hlts1 := blk_lt hxs1; have hlus1 := Nat.lt_succ_of_lt hlts1; have hlvs1 := Nat.lt_succ_of_lt hlus1; have HXs1 := Aside0.mk hxs1; clear hxs1))
         (try (refine aux_have (p := w1.heap[w.heap.size + 1 + 1 + 1]? = some (.cells (madeCells #[.int .i64 0] n) 3 (0, 0))) ?_ (fun hxm1 => ?_); (refine blk_below ?_ hb1; (try refine blk_drewU ?_); first | (refine blk_new_at ?_; focus (simp; done)) | (refine blk_alloc (blk_new_at ?_) _; focus (simp; done)) | (refine blk_alloc (blk_alloc (blk_new_at ?_) _) _; focus (simp; done))); have hltm1 := blk_lt hxm1; have hlum1 := Nat.lt_succ_of_lt hltm1; have hlvm1 := Nat.lt_succ_of_lt hlum1; have HXm1 := Aside0.mk hxm1; clear hxm1))
         (try (refine aux_have (p := w1.heap[w.heap.size + 1 + 1 + 1 + 1]? = some (.cells #[.slice none 0 0] 22 (0, 0))) ?_ (fun hxr2 => ?_); (refine blk_below ?_ hb1; (try refine blk_drewU ?_); first | (refine blk_new_at ?_; focus (simp; done)) | (refine blk_alloc (blk_new_at ?_) _; focus (simp; done)) | (refine blk_alloc (blk_alloc (blk_new_at ?_) _) _; focus (simp; done))); have hxcr2 : w1.cell? ⟨w.heap.size + 1 + 1 + 1 + 1, 0, none⟩ = some (.slice none 0 0) := blk_cell hxr2 0; have hxfr2 : w1.frozen? ⟨w.heap.size + 1 + 1 + 1 + 1, 0, none⟩ = false := blk_frozen hxr2 0; have hltr2 := blk_lt hxr2; have hlur2 := Nat.lt_succ_of_lt hltr2; have hlvr2 := Nat.lt_succ_of_lt hlur2; have HXr2 := Aside0.mk hxr2; clear hxr2))
         (try (refine aux_have (p := w1.heap[w.heap.size + 1 + 1 + 1 + 1]? = some (.cells #[.slice none 0 0] 38 (0, 0))) ?_ (fun hxs2 => ?_); (refine blk_below ?_ hb1; (try refine blk_drewU ?_); first | (refine blk_new_at ?_; focus (simp; done)) | (refine blk_alloc (blk_new_at ?_) _; focus (simp; done)) | (refine blk_alloc (blk_alloc (blk_new_at ?_) _) _; focus (simp; done))); have hxcs2 : w1.cell? ⟨w.heap.size + 1 + 1 + 1 + 1, 0, none⟩ = some (.slice none 0 0) := blk_cell hxs2 0; have hxfs2 : w1.frozen? ⟨w.heap.size + 1 + 1 + 1 + 1, 0, none⟩ = false := blk_frozen hxs2 0; have hlts2 := blk_lt hxs2; have hlus2 := Nat.lt_succ_of_lt hlts2; have hlvs2 := Nat.lt_succ_of_lt hlus2; have HXs2 := Aside0.mk hxs2; clear hxs2))
         (try (refine aux_have (p := w1.heap[w.heap.size + 1 + 1 + 1 + 1]? = some (.cells (madeCells #[.int .i64 0] n) 3 (0, 0))) ?_ (fun hxm2 => ?_); (refine blk_below ?_ hb1; (try refine blk_drewU ?_); first | (refine blk_new_at ?_; focus (simp; done)) | (refine blk_alloc (blk_new_at ?_) _; focus (simp; done)) | (refine blk_alloc (blk_alloc (blk_new_at ?_) _) _; focus (simp; done))); have hltm2 := blk_lt hxm2; have hlum2 := Nat.lt_succ_of_lt hltm2; have hlvm2 := Nat.lt_succ_of_lt hlum2; have HXm2 := Aside0.mk hxm2; clear hxm2))
         have HC1 := Aside0.mk (Kd.N_reads' hN1).2.1
         refine aux_have (p := w1.heap[w.heap.size]? = some (.cells #[.int .i64 n] 3 (0, 0))) ?_ (fun hg1 => ?_)
         focus (refine blk_below ?_ hb1; (try refine blk_drewU ?_); repeat (first | exact HE1.out | refine blk_alloc ?_ _))
         have HG1 := Aside0.mk hg1
         clear hg1
         refine aux_have (p := w1.heap[w.heap.size + 1]? = some (.cells #[.func (.func g) #[] lb] 39 (0, 0))) ?_ (fun hg2 => ?_)
         focus (refine blk_below ?_ hb1; (try refine blk_drewU ?_); repeat (first | exact HE2.out | refine blk_alloc ?_ _))
         have HG2 := Aside0.mk hg2
         clear hg2
         have n_ := fun h => Aside0.mk (Below.trans (B := w.heap.size) h (hb1.mono (Below.size h)))
         have HBW := n_ (by repeat (first | exact Below.refl _ _ | refine below_alloc ?_ _ | refine below_drew ?_))
         clear n_
         obtain ⟨lo, hi, hlo, hhi, hF1⟩ := es_lo (Kd.F_bound (Kd.N_F hN1))
         simp at hlo
         have HLO := Aside0.mk hlo
         have HHI := Aside0.mk hhi
         have HF1 := Aside0.mk hF1
         have HLT := Aside0.mk hb1.size
         clear hN1 hb1 hlo hhi hF1
         skip))
  all_goals
    have h_lt := HLT.out
    simp at h_lt
    refine REST _ _ _ c1 A1 _ HC1.out ?_ ?_ ?_ ?_ ?_ ?_ ?_ ?_
    · repeat' (first | with_reducible exact HBW.out | with_reducible refine below_alloc ?_ _ | with_reducible refine Below.setCell ?_ ?_ _ | (dsimp only; omega))
    · repeat' (first | with_reducible exact HG1.out | (with_reducible refine blk_new_at ?_; focus (simp [World.setCell]; done)) | (with_reducible refine blk_alloc ?_ _) | (with_reducible refine farU2 ?_ ?_; focus (first | (dsimp only; omega) | omega | (simp [World.setCell]; omega))) | (with_reducible refine put1 ?_))
    · repeat' (first | with_reducible exact HG2.out | (with_reducible refine blk_new_at ?_; focus (simp [World.setCell]; done)) | (with_reducible refine blk_alloc ?_ _) | (with_reducible refine farU2 ?_ ?_; focus (first | (dsimp only; omega) | omega | (simp [World.setCell]; omega))) | (with_reducible refine put1 ?_))
    · repeat' (first | with_reducible exact HXr0.out | with_reducible exact HXr1.out | with_reducible exact HXr2.out | (with_reducible refine blk_new_at ?_; focus (simp [World.setCell]; done)) | (with_reducible refine blk_alloc ?_ _) | (with_reducible refine farU2 ?_ ?_; focus (first | (dsimp only; omega) | omega | (simp [World.setCell]; omega))) | (with_reducible refine put1 ?_))
    · repeat' (first | with_reducible exact HXs0.out | with_reducible exact HXs1.out | with_reducible exact HXs2.out | (with_reducible refine blk_new_at ?_; focus (simp [World.setCell]; done)) | (with_reducible refine blk_alloc ?_ _) | (with_reducible refine farU2 ?_ ?_; focus (first | (dsimp only; omega) | omega | (simp [World.setCell]; omega))) | (with_reducible refine put1 ?_))
    · repeat' (first | with_reducible exact HXm0.out | with_reducible exact HXm1.out | with_reducible exact HXm2.out | (with_reducible refine blk_new_at ?_; focus (simp [World.setCell]; done)) | (with_reducible refine blk_alloc ?_ _) | (with_reducible refine farU2 ?_ ?_; focus (first | (dsimp only; omega) | omega | (simp [World.setCell]; omega))) | (with_reducible refine put1 ?_))
    · omega
    · have h_lo := HLO.out
      have h_hi := HHI.out
      refine Kd.F_mono (Kd.F_step HF1.out ?_) ?_
      · intro q h0 h1
        repeat' (first | with_reducible rfl | with_reducible refine hs_alloc ?_ ?_ | with_reducible refine hs_set ?_ ?_ | with_reducible exact h1 | (dsimp only; omega) | (simp [World.setCell]; omega))
      · intro q hq
        omega
end Go.Proofs.Ytkiloimggmpggaa
