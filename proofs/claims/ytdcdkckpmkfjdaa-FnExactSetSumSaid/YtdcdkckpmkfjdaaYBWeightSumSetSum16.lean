/- Texts of one chain, in build order. -/
import Derived.Test.YtdcdkckpmkfjdaaYBWeightSumSetSum15
import Derived.Test.YtdcdkckpmkfjdaaWMore
namespace Go.Proofs.Ytdcdkckpmkfjdaa
open Go.RowKit Go.Proofs.Ytdcdkckpmkfjdaa.P Go.Proofs.Ytdcdkckpmkfjdaa.L Go.Proofs.YtdcdkckpmkfjdaaW.PrintWords Go.Proofs.YtdcdkckpmkfjdaaW.PrintLast Go.Proofs.YtdcdkckpmkfjdaaW.PrintMore
set_option linter.unusedVariables false
set_option linter.unusedSimpArgs false

/-- The state of total: the variable bo holds the sum. -/
def ToSt (W0 : World) (B bo : Nat) (cs : Nat → Int) (j : Nat) (W : World) (ok : Nat → Prop) : Prop :=
 (ok = fun k => k < W0.heap.size) ∧ W0.heap.size ≤ W.heap.size ∧ (∀ k, k < B → W.heap[k]? = W0.heap[k]?) ∧ W.heap[bo]? = some (.cells #[.int .i64 (cs j)] 3 (0, 0))
theorem ToSt.stays (W0 : World) (B bo : Nat) (cs : Nat → Int) (hB : B ≤ bo) (hbo : bo < W0.heap.size) : Stays (ToSt W0 B bo cs) := by
 refine ⟨?_, ?_⟩
 ·rintro j W ok ⟨rfl, hs, _, _⟩ k hk
  exact Nat.lt_of_lt_of_le hk hs
 ·rintro j W W' ok ⟨rfl, hs, hB2, hc⟩ hm
  exact ⟨rfl, heap_grew hs (fun k hk => hm k hk), fun k hk => (hm k (show k < W0.heap.size by omega)).trans (hB2 k hk), (hm bo hbo).trans hc⟩
set_option maxHeartbeats 4000000 in
set_option maxRecDepth 100000 in
theorem total_1.calls (W0 : World) (B bf bo gof : Nat) (lbof : Array Value) (cs : Nat → Int) (All : List (List (List Int))) (ofv : List (List Int) → Int) (hbf : bf < B) (hB : B ≤ bo) (hbo : bo < W0.heap.size)
  (hfn : W0.heap[bf]? = some (.cells #[.func (.func gof) #[] lbof] 56 (0, 0)))
  (eg : ∀ args w, (callFunc gof args).run Try.prog w = .ok (.enter gof args) w)
  (hof : ∀ (T : List (List Int)) (A : Option Addr) (c : Nat) (W : World), T ∈ All → (∀ k, k < B → W.heap[k]? = W0.heap[k]?) → Kd.C (Kd.slice 3 (Kd.int .i64)) W A T.length T → T.length ≤ c → Calls Try.prog gof (#[.slice A T.length c] ++ lbof) W fun e w' => e = .returned (.int .i64 (ofv T)) ∧ Below W.heap.size W w')
  (hcs : ∀ (j : Nat) (T : List (List Int)), All[j]? = some T → cs (j + 1) = wrap64 (cs j + ofv T))
  (j : Nat) (T : List (List Int)) (A : Option Addr) (c : Nat) (W : World) (ok : Nat → Prop) (hT : All[j]? = some T) (hst : ToSt W0 B bo cs j W ok) (hF : Kd.F (Kd.slice 3 (Kd.int .i64)) W (fun k => ¬ ok k ∧ k < W.heap.size) A T.length T) (hc : T.length ≤ c) :
  Calls Try.prog 116 (#[.slice A T.length c] ++ #[.pointer (some ⟨bo, 0, none⟩), .pointer (some ⟨bf, 0, none⟩)]) W (Stepped (ToSt W0 B bo cs) (j + 1) W ok) := by
 obtain ⟨rfl, hsz, hlow, hcell⟩ := hst
 have hm1 := hcs j T hT
 obtain ⟨m, hm⟩ : ∃ m, m = ofv T := ⟨_, rfl⟩
 have hlow2 : ∀ W', Below W.heap.size W W' → ∀ k, k < B → W'.heap[k]? = W0.heap[k]? := fun W' hb k hk => (hb.block k (by omega)).trans (hlow k hk)
 have HCF := Aside0.mk (fun W' (hb : Below W.heap.size W W') => hm ▸ hof T A c W' (List.mem_of_getElem? hT) (hlow2 W' hb) (Kd.F_now (Kd.F_below hF hb)) hc)
 rw [← hm] at hm1
 have hfw : W.heap[bf]? = some (.cells #[.func (.func gof) #[] lbof] 56 (0, 0)) := (hlow bf hbf).trans hfn
 have hk1 : W.cell? ⟨bf, 0, none⟩ = some (.func (.func gof) #[] lbof) := blk_cell hfw 0
 have hk2 : W.cell? ⟨bo, 0, none⟩ = some (.int .i64 (cs j)) := blk_cell hcell 0
 have hk3 : W.frozen? ⟨bo, 0, none⟩ = false := blk_frozen hcell 0
 have HM := Aside0.mk hm1
 have HCELL := Aside0.mk hcell
 have HSZ := Aside0.mk hsz
 have HLOW := Aside0.mk hlow2
 have HBC := Aside0.mk (Below.refl W.heap.size W)
 clear hof hcs hm1 hcell hsz hlow hlow2 hF hc hfn hT hfw hm
 go_enter Try.func116, Try.ntmps116
 go_wp2
 go_region_law (first
   | (go_simp; go_at_fn gof; (refine (HCF.out _ ?hbY).mono ?_); (case hbY => exact (by repeat (first | exact HBC.out | refine below_drew ?_))); rintro e w1 ⟨rfl, hb⟩; have n_ := fun h => Aside0.mk (Below.trans (B := W.heap.size) h (hb.mono (Below.size h))); have m_ := n_ (by repeat (first | exact HBC.out | refine below_drew ?_)); clear n_ HBC; have HBC := m_; clear m_; have hq1 := pw_cell_below HBC.out hk1; have hq2 := pw_cell_below HBC.out hk2; have hq3 : w1.frozen? ⟨bo, 0, none⟩ = false := blk_frozen (blk_below HCELL.out HBC.out) 0; clear hb))
 all_goals
  have HT := Aside0.mk ((Touch.of_below HBC.out (fun k => k < W0.heap.size)).set ⟨bo, 0, none⟩ (.inl hbo) (.int .i64 (IntKind.i64.wrap (cs j + m))))
  go_wp2
  go_ret
  refine ⟨rfl, fun k => k < W0.heap.size, ⟨rfl, Nat.le_trans HSZ.out HT.out.size, fun k hk => (Below.heap_setCell _ _ _ _ (by dsimp only; omega)).trans (HLOW.out _ HBC.out k hk), ?_⟩, HT.out, fun k h => .inl h⟩
  rw [HM.out, ← i64_w]
  exact blk_put (blk_below HCELL.out HBC.out) 0 _ rfl
set_option maxHeartbeats 4000000 in
set_option maxRecDepth 100000 in
theorem impl_total.callsG (n gof : Nat) (lbof : Array Value) (cs : Nat → Int) (All : List (List (List Int))) (ofv : List (List Int) → Int) (hES : EachSigns n All)
  (eg : ∀ args w, (callFunc gof args).run Try.prog w = .ok (.enter gof args) w) (w : World)
  (hof : ∀ (T : List (List Int)) (A : Option Addr) (c : Nat) (W : World), T ∈ All → (∀ k, k < w.heap.size → W.heap[k]? = w.heap[k]?) → Kd.C (Kd.slice 3 (Kd.int .i64)) W A T.length T → T.length ≤ c → Calls Try.prog gof (#[.slice A T.length c] ++ lbof) W fun e w' => e = .returned (.int .i64 (ofv T)) ∧ Below W.heap.size W w')
  (h0 : cs 0 = 0) (hcs : ∀ (j : Nat) (T : List (List Int)), All[j]? = some T → cs (j + 1) = wrap64 (cs j + ofv T)) :
  Calls Try.prog 69 #[.int .i64 n, .func (.func gof) #[] lbof] w fun e w' => e = .returned (.int .i64 (cs All.length)) ∧ Below w.heap.size w w' := by
 have egT : ∀ args w, (callFunc 116 args).run Try.prog w = .ok (.enter 116 args) w := enters_of Try.func116 (by kernel_rfl) rfl
 obtain ⟨W0, hW0⟩ : ∃ W0, W0 = (w.alloc (.cells #[.func (.func gof) #[] lbof] 56)).alloc (.cells #[.int .i64 0] 3) := ⟨_, rfl⟩
 have hsz : W0.heap.size = w.heap.size + 1 + 1 := by rw [hW0]; simp
 have hb0 : Below w.heap.size w W0 := by rw [hW0]; exact below_alloc (below_alloc (Below.refl _ _) _) _
 have hf0 : W0.heap[w.heap.size]? = some (.cells #[.func (.func gof) #[] lbof] 56 (0, 0)) := by rw [hW0]; exact blk_alloc (blk_new_at rfl) _
 have hbo : W0.heap[w.heap.size + 1]? = some (.cells #[.int .i64 0] 3 (0, 0)) := by rw [hW0]; exact blk_new_at (by simp)
 have hcall := hES 116 #[.pointer (some ⟨w.heap.size + 1, 0, none⟩), .pointer (some ⟨w.heap.size, 0, none⟩)] W0 (ToSt W0 (w.heap.size + 1) (w.heap.size + 1) cs) (ToSt.stays _ _ _ _ (by omega) (by omega)) egT
  (total_1.calls W0 (w.heap.size + 1) w.heap.size (w.heap.size + 1) gof lbof cs All ofv (by omega) (by omega) (by omega) hf0 eg (fun T A c W hT hlow hC hc => hof T A c W hT (fun k hk => (hlow k (by omega)).trans (hb0.block k hk)) hC hc) hcs)
  (fun k => k < W0.heap.size) ⟨rfl, Nat.le_refl _, fun k _ => rfl, by rw [h0]; exact hbo⟩
 have HC := Aside0.mk hcall
 have HB0 := Aside0.mk hb0
 have HSZ := Aside0.mk hsz
 have HW0 := Aside0.mk hW0
 clear hcall hb0 hsz hW0 hf0 hbo h0 hcs hof hES egT
 go_enter Try.func69, Try.ntmps69
 go_wp2_with (go_at_call 82; rw [← HW0.out]; refine HC.out.mono ?_; rintro e w5 ⟨rfl, ok5, ⟨rfl, hs5, hl5, hc5⟩, ht5, ho5⟩; have hx5 : w5.cell? ⟨w.heap.size + 1, 0, none⟩ = some (.int .i64 (cs All.length)) := blk_cell hc5 0; have HS5 := Aside0.mk hs5; have HL5 := Aside0.mk hl5; have HT5 := Aside0.mk ht5; clear hs5 hl5 ht5 ho5 hc5)
 go_ret
 exact ⟨rfl, HT5.out.os.trans HB0.out.os, HT5.out.tape.trans HB0.out.tape, HT5.out.output.trans HB0.out.output, Nat.le_trans HB0.out.size HT5.out.size, fun k hk => (HL5.out k (by omega)).trans (HB0.out.block k hk)⟩
end Go.Proofs.Ytdcdkckpmkfjdaa

namespace Go.Proofs.Ytdcdkckpmkfjdaa
open Go.RowKit Go.Proofs.Ytdcdkckpmkfjdaa.P Go.Proofs.Ytdcdkckpmkfjdaa.L Go.Proofs.YtdcdkckpmkfjdaaW.PrintWords Go.Proofs.YtdcdkckpmkfjdaaW.PrintLast Go.Proofs.YtdcdkckpmkfjdaaW.PrintMore
set_option linter.unusedVariables false
set_option maxRecDepth 100000

def srX (n : Nat) : List (List Int) := (srE 100 n [] 0).getD []
def esX (n : Nat) : List (List (List Int)) := (esE 1000 n (srX n) [] (List.replicate n 0)).getD []
def EsOk (n : Nat) : Prop := srE 100 n [] 0 = some (srX n) ∧ (srX n).length ≤ 1000 ∧ esE 1000 n (srX n) [] (List.replicate n 0) = some (esX n)
theorem es_1 : EsOk 1 := by unfold EsOk; decide +kernel
theorem es_2 : EsOk 2 := by unfold EsOk; decide +kernel
theorem es_3 : EsOk 3 := by unfold EsOk; decide +kernel
theorem es_4 : EsOk 4 := by unfold EsOk; decide +kernel
theorem es_all {n : Nat} (h0 : 1 ≤ n) (h1 : n ≤ 4) : EsOk n := by
 have e : n = 1 ∨ n = 2 ∨ n = 3 ∨ n = 4 := by omega
 rcases e with rfl | rfl | rfl | rfl
 ·exact es_1
 ·exact es_2
 ·exact es_3
 ·exact es_4
theorem eachSigns_of {n : Nat} (hn : n ≤ 100) (h : EsOk n) : EachSigns n (esX n) := fun g lb w St hSt eg hf ok hst =>
 impl_eachSigns.callsG n hn (srX n) g lb w (fun w => impl_signRows.callsG n 100 (srX n) w h.1 (by omega) (by have := h.2.1; omega)) St hSt h.2.1 (esX n) eg hf 1000 h.2.2 (by omega) ok hst
theorem eachSigns_all {n : Nat} (h0 : 1 ≤ n) (h1 : n ≤ 4) : EachSigns n (esX n) := eachSigns_of (by omega) (es_all h0 h1)
/-- The sum behind j tables. -/
def smOf (ofv : List (List Int) → Int) : List (List (List Int)) → Int → Nat → Int
 | _, c, 0 => c
 | [], c, _ + 1 => c
 | T :: L, c, j + 1 => smOf ofv L (wrap64 (c + ofv T)) j
theorem smOf_step (ofv : List (List Int) → Int) : ∀ (L : List (List (List Int))) (c : Int) (j : Nat) (T : List (List Int)), L[j]? = some T → smOf ofv L c (j + 1) = wrap64 (smOf ofv L c j + ofv T)
 | [], c, j, T, hT => by simp at hT
 | T0 :: L, c, 0, T, hT => by
  simp only [List.getElem?_cons_zero, Option.some.injEq] at hT
  subst hT
  cases L <;> simp [smOf]
 | T0 :: L, c, j + 1, T, hT => by
  have := smOf_step ofv L (wrap64 (c + ofv T0)) j T (by simpa using hT)
  simp only [smOf]
  exact this
end Go.Proofs.Ytdcdkckpmkfjdaa
