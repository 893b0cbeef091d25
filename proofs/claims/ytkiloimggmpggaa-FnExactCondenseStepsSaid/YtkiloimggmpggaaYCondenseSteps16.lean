/- Texts of one chain, in build order. -/
import Derived.Test.YtkiloimggmpggaaYCondenseSteps15
import Derived.Laws.CopyOwn
namespace Go.Proofs.Ytkiloimggmpggaa.P
open Go.RowKit Go.Proofs.YtkiloimggmpggaaW.PrintWords Go.Proofs.YtkiloimggmpggaaW.PrintLast Go.Proofs.YtkiloimggmpggaaW.PrintMore
attribute [local go_sem] max2_int min2_int max_two min_two max_three min_three max_four min_four   -- for this text's walks alone
set_option linter.unusedVariables false
set_option linter.unusedSimpArgs false

def bits_Mul64.f (a0 : Int) (a1 : Int) : Option (Int × Int) := some (IntKind.u64.wrap ((IntKind.u64.wrap ((IntKind.u64.wrap ((a0 / 4294967296) * (a1 / 4294967296))) + ((IntKind.u64.wrap ((IntKind.u64.wrap ((a0 / 4294967296) * (Go.bits .and .u64 a1 4294967295))) + ((IntKind.u64.wrap ((Go.bits .and .u64 a0 4294967295) * (Go.bits .and .u64 a1 4294967295))) / 4294967296))) / 4294967296))) + ((IntKind.u64.wrap ((Go.bits .and .u64 (IntKind.u64.wrap ((IntKind.u64.wrap ((a0 / 4294967296) * (Go.bits .and .u64 a1 4294967295))) + ((IntKind.u64.wrap ((Go.bits .and .u64 a0 4294967295) * (Go.bits .and .u64 a1 4294967295))) / 4294967296))) 4294967295) + (IntKind.u64.wrap ((Go.bits .and .u64 a0 4294967295) * (a1 / 4294967296))))) / 4294967296)), IntKind.u64.wrap (a0 * a1))
set_option maxHeartbeats 8000000 in
set_option maxRecDepth 100000 in
theorem bits_Mul64.calls (a0 : Int) (a1 : Int) (r1 : Int) (r2 : Int) (w : World) (h : bits_Mul64.f a0 a1 = some (r1, r2)) :
  Calls Try.prog 84 #[.int .u64 a0, .int .u64 a1] w fun e w' => e = .returned (.tuple #[.int .u64 r1, .int .u64 r2]) ∧ Drawn0 w w' := by
 have H : (some (IntKind.u64.wrap ((IntKind.u64.wrap ((IntKind.u64.wrap ((a0 / 4294967296) * (a1 / 4294967296))) + ((IntKind.u64.wrap ((IntKind.u64.wrap ((a0 / 4294967296) * (Go.bits .and .u64 a1 4294967295))) + ((IntKind.u64.wrap ((Go.bits .and .u64 a0 4294967295) * (Go.bits .and .u64 a1 4294967295))) / 4294967296))) / 4294967296))) + ((IntKind.u64.wrap ((Go.bits .and .u64 (IntKind.u64.wrap ((IntKind.u64.wrap ((a0 / 4294967296) * (Go.bits .and .u64 a1 4294967295))) + ((IntKind.u64.wrap ((Go.bits .and .u64 a0 4294967295) * (Go.bits .and .u64 a1 4294967295))) / 4294967296))) 4294967295) + (IntKind.u64.wrap ((Go.bits .and .u64 a0 4294967295) * (a1 / 4294967296))))) / 4294967296)), IntKind.u64.wrap (a0 * a1))) = some (r1, r2) := h
 clear h
 simp only [Option.some.injEq, Prod.mk.injEq] at H
 obtain ⟨rfl, rfl⟩ := H
 go_enter Try.func84, Try.ntmps84
 go_wp2
 go_ret2
 exact ⟨by first | rfl | (simp; done) | (simp [*]; done), by repeat (first | exact Drawn0.refl _ | apply Drawn0.step)⟩

end Go.Proofs.Ytkiloimggmpggaa.P

namespace Go.Proofs.Ytkiloimggmpggaa.P
open Go.RowKit Go.Proofs.YtkiloimggmpggaaW.PrintWords Go.Proofs.YtkiloimggmpggaaW.PrintLast Go.Proofs.YtkiloimggmpggaaW.PrintMore
attribute [local go_sem] max2_int min2_int max_two min_two max_three min_three max_four min_four   -- for this text's walks alone
set_option linter.unusedVariables false
set_option linter.unusedSimpArgs false

def bits_Mul.f (a0 : Int) (a1 : Int) : Option (Int × Int) := (bits_Mul64.f a0 a1).bind fun bt288 => (some (bt288.1, bt288.2))
set_option maxHeartbeats 8000000 in
set_option maxRecDepth 100000 in
theorem bits_Mul.calls (a0 : Int) (a1 : Int) (r1 : Int) (r2 : Int) (w : World) (h : bits_Mul.f a0 a1 = some (r1, r2)) :
  Calls Try.prog 78 #[.int .u64 a0, .int .u64 a1] w fun e w' => e = .returned (.tuple #[.int .u64 r1, .int .u64 r2]) ∧ Drawn0 w w' := by
 have H : ((bits_Mul64.f a0 a1).bind fun bt288 => (some (bt288.1, bt288.2))) = some (r1, r2) := h
 clear h
 replace H := Option.bind_eq_some_iff.mp H
 obtain ⟨⟨t288, t289⟩, A30, H⟩ := H
 replace H : (some (t288, t289)) = some (r1, r2) := H
 have A3 := Aside0.mk A30
 clear A30
 simp only [Option.some.injEq, Prod.mk.injEq] at H
 obtain ⟨rfl, rfl⟩ := H
 go_enter Try.func78, Try.ntmps78
 go_wp2_with (first | ((with_reducible refine gate_callee (f := 84) rfl ?_); refine goesL_ (some 25) rfl rfl Try.func84 (by kernel_rfl) rfl #[.int .u64 a0, .int .u64 a1] rfl (by (try simp only [List.map_toArray, List.map_cons, List.map_nil]); first | done | rfl | (simp only [List.length_drop, List.length_take]; rfl)) ?_; (with_reducible refine (bits_Mul64.calls a0 a1 t288 t289 _ A3.out).mono ?_); rintro e w' ⟨rfl, ⟨nd, rfl⟩⟩; refine ⟨_, rfl, ?_⟩))
 go_ret2
 exact ⟨by first | rfl | (simp; done) | (simp [*]; done), by repeat (first | exact Drawn0.refl _ | apply Drawn0.step)⟩

end Go.Proofs.Ytkiloimggmpggaa.P

namespace Go.Proofs.Ytkiloimggmpggaa
open Go.RowKit Go.Proofs.Ytkiloimggmpggaa.P Go.Proofs.Ytkiloimggmpggaa.L Go.Proofs.YtkiloimggmpggaaW.PrintWords Go.Proofs.YtkiloimggmpggaaW.PrintLast Go.Proofs.YtkiloimggmpggaaW.PrintMore
set_option linter.unusedVariables false
set_option linter.unusedSimpArgs false

/-- copy of elements of two cells each, as an equation. -/
theorem run_copy_row2 {P : Program} (w : World) (dT sT ty elem : TypeId) (g o dLen dCap : Nat) (a : Addr) (sLen sCap : Nat) (cur : Array Value) (t : TypeId) (cs : List Value) (n : Nat)
  (hu : P.underlying dT = some (.slice elem)) (hs : (P.info? elem).map (·.size) = some 2)
  (hg : w.heap[g]? = some (.cells cur t (0, 0))) (hm : n = Nat.min sLen dLen) (hn : cs.length = n * 2)
  (hsrc : ∀ j v, cs[j]? = some v → w.cell? (a.add j) = some v) (hfit : o + cs.length ≤ cur.size) (h1 : ∀ v ∈ cs, v.oneCell' = true) :
  (Builtin.copy_ #[dT, sT] ty #[.slice (some ⟨g, o, none⟩) dLen dCap, .slice (some a) sLen sCap]).run P w =
   .ok (goInt n) (w.setRow g (cur.toList.take o ++ cs ++ cur.toList.drop (o + cs.length)).toArray) := by
 have hl := run_loadCells_list (P := P) w a cs hsrc
 have hst := run_storeCells_at P g o t cs 0 cur w hg (by simpa using hfit) h1
 cases hq : P.info? elem with
 | none => simp [hq] at hs
 | some i =>
  have hi : i.size = 2 := by simpa [hq] using hs
  simp [Builtin.copy_, run_underlying hu, Builtin.lenOf, Builtin.firstCells, sizeOf, typeInfo, hq, hi, ← hm, ← hn, hl, hst]
/-- The row while it is filled: k cells 1 are there. -/
def rpL (k m : Nat) : List Int := List.replicate k 1 ++ List.replicate (m - k) 0
theorem rpL_splice (k m n : Nat) (h : k + n ≤ m) : splice ((rpL k m).map (Value.int .i64)) k ((List.replicate n 1).map (Value.int .i64)) = (rpL (k + n) m).map (Value.int .i64) := by
 unfold splice rpL
 simp only [List.map_append, List.map_replicate]
 rw [List.take_append_of_le_length (by simp), List.take_of_length_le (by simp), List.drop_append, List.drop_eq_nil_of_le (by simp)]
 simp only [List.nil_append, List.length_replicate, List.drop_replicate]
 rw [← List.append_assoc, List.replicate_append_replicate]
 congr 2
 omega
theorem rpL_at (k m j : Nat) (h : j < k) : ((rpL k m).map (Value.int .i64))[j]? = some (.int .i64 1) := by
 unfold rpL
 rw [List.map_append, List.getElem?_append_left (by simpa using h)]
 simp [List.getElem?_replicate, h]
theorem size_ratio : (Try.prog.info? 25).map (·.size) = some 2 := by kernel_rfl
theorem rp_cell {W : World} {g k m n j : Nat} {u : Value} (h : W.heap[g]? = some (.cells ((rpL k m).map (Value.int .i64)).toArray 25 (0, 0))) (hu : ((List.replicate n (1 : Int)).map (Value.int .i64))[j]? = some u) (hn : n ≤ k) : W.drew.cell? ((⟨g, 0, none⟩ : Addr).add j) = some u := by
 have hj : j < n := by
  have := (List.getElem?_eq_some_iff.1 hu).1
  simpa using this
 have hu2 : u = .int .i64 1 := by
  simp [List.getElem?_replicate, hj] at hu
  exact hu.symm
 subst hu2
 have h1 := (blk_cell h j).trans (by rw [List.getElem?_toArray, rpL_at k m j (by omega)] : _ = some (Value.int .i64 1))
 have h2 : ((⟨g, 0, none⟩ : Addr).add j) = ⟨g, j, none⟩ := by
  simp [Addr.add]
  intro h0; omega
 rw [h2]
 exact h1
theorem madeRats (m : Nat) : madeCells #[Value.int .i64 0, Value.int .i64 0] m = ((List.replicate m (0 : Int)).map (Value.int .i64)).toArray := by
 apply Array.ext
 ·simp [madeCells]
 ·intro i h1 h2
  have : i % 2 = 0 ∨ i % 2 = 1 := by omega
  rcases this with h | h <;> simp [madeCells, h]
theorem copy_first {P : Program} {w : World} {ops : Array Oper} {rest : List Oper} {o : Oper} {a : Act} {Q : Exit → Act → World → Prop} (hgd : o.guard = none) (d s : Operand) (dT sT : TypeId)
  (ho : o.op = .call { callee := .builtin .copy, args := #[d, s], argTypes := #[dT, sT] }) (elem : TypeId) (hu : P.underlying dT = some (.slice elem)) (hsz : (P.info? elem).map (·.size) = some 2)
  (g off dLen dCap : Nat) (ad : Addr) (sLen sCap : Nat) (hd : a.eval d = .slice (some ⟨g, off, none⟩) dLen dCap) (hs : a.eval s = .slice (some ad) sLen sCap)
  (cur : Array Value) (t : TypeId) (hg : w.heap[g]? = some (.cells cur t (0, 0))) (cs : List Value) (n : Nat) (hm : n = Nat.min sLen dLen) (hn : cs.length = n * 2)
  (hsrc : ∀ j v, cs[j]? = some v → w.cell? (ad.add j) = some v) (hfit : off + cs.length ≤ cur.size) (h1 : ∀ v ∈ cs, v.oneCell' = true)
  (h : wpList P ops Q rest (a.put o.dst (goInt n)) (w.setRow g (cur.toList.take off ++ (cs ++ cur.toList.drop (off + cs.length))).toArray)) : wpList P ops Q (o :: rest) a w := by
 refine wpList_plain hgd fun K hK => ?_
 have hrun := run_copy_row2 (P := P) w dT sT o.type elem g off dLen dCap ad sLen sCap cur t cs n hu hsz hg hm hn hsrc hfit h1
 unfold Oper.wp
 simp [execOp, ho, resolve, invoke, builtin, hd, hs, hrun, Result.andThen]
 exact hK _ _ h
theorem copy_splice2 {P : Program} {w : World} {ops : Array Oper} {rest : List Oper} {o : Oper} {a : Act} {Q : Exit → Act → World → Prop} (hgd : o.guard = none) (d s : Operand) (dT sT : TypeId)
  (ho : o.op = .call { callee := .builtin .copy, args := #[d, s], argTypes := #[dT, sT] }) (elem : TypeId) (hu : P.underlying dT = some (.slice elem)) (hsz : (P.info? elem).map (·.size) = some 2)
  (g off dLen dCap : Nat) (ad : Addr) (sLen sCap : Nat) (hd : a.eval d = .slice (some ⟨g, off, none⟩) dLen dCap) (hs : a.eval s = .slice (some ad) sLen sCap)
  (cur : List Value) (t : TypeId) (hg : w.heap[g]? = some (.cells cur.toArray t (0, 0))) (cs : List Value) (n : Nat) (hm : n = Nat.min sLen dLen) (hn : cs.length = n * 2)
  (hsrc : ∀ j v, cs[j]? = some v → w.cell? (ad.add j) = some v) (hfit : off + cs.length ≤ cur.length) (h1 : ∀ v ∈ cs, v.oneCell' = true) (B : Nat) (w0 : World) (hb : Below B w0 w) (hBg : B ≤ g)
  (h : ∀ w', w'.heap[g]? = some (.cells (splice cur off cs).toArray t (0, 0)) → Below B w0 w' → wpList P ops Q rest (a.put o.dst (goInt n)) w') : wpList P ops Q (o :: rest) a w := by
 refine copy_first hgd d s dT sT ho elem hu hsz g off dLen dCap ad sLen sCap hd hs cur.toArray t hg cs n hm hn hsrc (by simpa using hfit) h1 ?_
 exact h _ (show _ = _ by simpa [splice] using setRow_heap w g _ _ t _ hg) (below_setRow hb hBg _)
theorem src2 {W : World} {g : Nat} (h0 : W.cell? ⟨g, 0, none⟩ = some (.int .i64 1)) (h1 : W.cell? ⟨g, 1, none⟩ = some (.int .i64 1)) : ∀ (j : Nat) (u : Value), ((List.replicate 2 (1 : Int)).map (Value.int .i64))[j]? = some u → W.cell? ((⟨g, 0, none⟩ : Addr).add j) = some u := by
 intro j u hu
 have hj : j = 0 ∨ j = 1 := by
  have := (List.getElem?_eq_some_iff.1 hu).1
  simp at this
  omega
 rcases hj with rfl | rfl
 ·simp at hu; subst hu; exact h0
 ·simp at hu; subst hu; simpa [Addr.add] using h1
set_option maxHeartbeats 4000000 in
theorem slices_RepeatR.calls (g m : Nat) (w : World) (h1 : 1 ≤ m) (h2 : m ≤ 1000) (hmul : bits_Mul.f 1 (m : Int) = some (0, (m : Int))) (hg0 : w.cell? ⟨g, 0, none⟩ = some (.int .i64 1)) (hg1 : w.cell? ⟨g, 1, none⟩ = some (.int .i64 1)) :
  Calls Try.prog 62 #[.slice (some ⟨g, 0, none⟩) 1 1, .int .i64 m] w fun e w' => ∃ g2 : Nat, e = .returned (.slice (some ⟨g2, 0, none⟩) m m) ∧ w.heap.size ≤ g2 ∧ w'.heap[g2]? = some (.cells ((List.replicate (m * 2) (1 : Int)).map (Value.int .i64)).toArray 25 (0, 0)) ∧ Below w.heap.size w w' := by
 have mk1 : ∀ W : World, Sem.run Try.prog (Instr.makeSlice 53 (.int .i64 m) (.int .i64 m)) W = Result.ok (Value.slice (some ⟨W.heap.size, 0, none⟩) m m) (W.alloc (.cells (madeCells #[.int .i64 0, .int .i64 0] (m * 2)) 25)) := fun W => by
  have hi := info_ratio
  obtain ⟨i, hi1, hzz⟩ := Option.map_eq_some_iff.1 hi
  simp only [Prod.mk.injEq] at hzz
  obtain ⟨hz, hs, hb⟩ := hzz
  have h := run_make (P := Try.prog) W 53 25 i _ Try.underlying53 hi1 hz .i64 .i64 (m : Int) (m : Int) (by omega) (Int.le_refl _) (by rw [hb]; omega) (by omega)
  rw [hs, Int.toNat_natCast] at h
  exact h
 have hm1 : IntKind.u64.wrap (m : Int) = m := by rw [IntKind.wrap_u64]; omega
 have hm2 : ¬ (m : Int) < 0 := by omega
 have hm3 : ¬ (m : Int) > 9223372036854775807 := by omega
 go_enter Try.func62, Try.ntmps62
 have HMIN := Aside0.mk (show 1 = Nat.min 1 m by show 1 = min 1 m; omega)
 go_wp2_with (first
  | (go_at_call 78; refine (bits_Mul.calls 1 m 0 m _ hmul).mono ?_; rintro e w1 ⟨rfl, hd⟩; have hgv0 := pw_cell_below hd.below hg0; have hgv1 := pw_cell_below hd.below hg1; have HB := Aside0.mk (below_alloc hd.below (.cells (madeCells #[.int .i64 0, .int .i64 0] (m * 2)) 25)); have HG := Aside0.mk hd.below.size; have HC := Aside0.mk (show (w1.alloc (.cells (madeCells #[.int .i64 0, .int .i64 0] (m * 2)) 25)).heap[w1.heap.size]? = some (.cells ((rpL 0 (m * 2)).map (Value.int .i64)).toArray 25 (0, 0)) from by rw [madeRats]; simpa [rpL] using blk_new w1 (.cells ((List.replicate (m * 2) (0 : Int)).map (Value.int .i64)).toArray 25)); clear hd)
  | ((with_reducible refine gate_builtin (b := .copy) (xs := #[.tmp 31, .tmp 32]) rfl ?_); refine copy_splice2 rfl (.tmp 31) (.tmp 32) 53 53 rfl 25 Try.underlying53 size_ratio w1.heap.size 0 m m ⟨g, 0, none⟩ 1 1 rfl rfl ((rpL 0 (m * 2)).map (Value.int .i64)) 25 HC.out ((List.replicate 2 (1 : Int)).map (Value.int .i64)) 1 HMIN.out (by simp) ?hsrc ?hfit ?h1 w.heap.size w HB.out HG.out ?_; (case hsrc => exact src2 (pw_cell_below (below_alloc (Below.refl _ _) _) hgv0) (pw_cell_below (below_alloc (Below.refl _ _) _) hgv1)); (case hfit => simp [rpL]; omega); (case h1 => exact fun u hu => by simp at hu; subst hu; rfl); intro w2 hg2 hb2; rw [rpL_splice 0 (m * 2) 2 (by omega)] at hg2; have HC2 := Aside0.mk (show w2.heap[w1.heap.size]? = some (.cells ((rpL (1 * 2) (m * 2)).map (Value.int .i64)).toArray 25 (0, 0)) from hg2); have HB2 := Aside0.mk hb2; clear hg2 hb2))
 go_loopg [8] m (fun gg s8 wr => ∃ k : Nat, 1 ≤ k ∧ k ≤ m ∧ m - k ≤ gg ∧ s8 = .int .i64 k ∧ Aside0 (wr.heap[w1.heap.size]? = some (.cells ((rpL (k * 2) (m * 2)).map (Value.int .i64)).toArray 25 (0, 0))) ∧ Aside0 (Below w.heap.size w wr))
 case atStart => exact ⟨1, by omega, by omega, by omega, by first | rfl | simp [goInt], HC2, HB2⟩
 case round =>
  clear HC HB HC2 HB2
  obtain ⟨k, hk1, hkm, hgk, rfl, HC, HB⟩ := hrel
  by_cases hlt : k < m
  ·have hz : (k : Int) < (m : Int) := by omega
   have hkm2 : k ≤ m := by omega
   have hk0 : (0 : Int) ≤ (k : Int) := by omega
   have hk1' : (k : Int) ≤ (m : Int) := by omega
   have hmk : ¬ m = k := by omega
   obtain ⟨n, hn⟩ : ∃ n, n = Nat.min k (m - k) := ⟨_, rfl⟩
   have hnm : 1 ≤ n ∧ k + n ≤ m := by rw [hn]; show 1 ≤ min k (m - k) ∧ k + min k (m - k) ≤ m; omega
   obtain ⟨new, hnew⟩ : ∃ new, new = ((((rpL (k * 2) (m * 2)).map (Value.int .i64)).toArray.toList.take (k * 2) ++ (List.replicate (n * 2) (1 : Int)).map (Value.int .i64) ++ ((rpL (k * 2) (m * 2)).map (Value.int .i64)).toArray.toList.drop (k * 2 + ((List.replicate (n * 2) (1 : Int)).map (Value.int .i64)).length)).toArray) := ⟨_, rfl⟩
   have hrun : Sem.run Try.prog (Builtin.copy_ #[53, 53] 3 #[.slice (some ⟨w1.heap.size, k * 2, none⟩) (m - k) (m - k), .slice (some ⟨w1.heap.size, 0, none⟩) k m]) wr.drew = .ok (.int .i64 n) (wr.drew.setRow w1.heap.size new) := by
    have h_ := run_copy_row2 (P := Try.prog) wr.drew 53 53 3 25 w1.heap.size (k * 2) (m - k) (m - k) ⟨w1.heap.size, 0, none⟩ k m ((rpL (k * 2) (m * 2)).map (Value.int .i64)).toArray 25 ((List.replicate (n * 2) (1 : Int)).map (Value.int .i64)) n Try.underlying53 size_ratio (show wr.drew.heap[w1.heap.size]? = _ from HC.out) hn (by simp) (fun j u hu => rp_cell HC.out hu (Nat.mul_le_mul_right 2 (by rw [hn]; exact Nat.min_le_left _ _))) (by simp [rpL]; omega) (fun u hu => by simp at hu; rw [hu.2]; rfl)
    rw [← hnew] at h_
    rw [h_]
    simp [goInt]
   have hnl : new = ((rpL ((k + n) * 2) (m * 2)).map (Value.int .i64)).toArray := by
    have h_ := rpL_splice (k * 2) (m * 2) (n * 2) (by omega)
    rw [← Nat.add_mul] at h_
    rw [hnew, ← h_]
    simp [splice]
   have HC2 := Aside0.mk (show (wr.drew.setRow w1.heap.size new).heap[w1.heap.size]? = some (.cells ((rpL ((k + n) * 2) (m * 2)).map (Value.int .i64)).toArray 25 (0, 0)) from by rw [← hnl]; exact setRow_heap wr.drew w1.heap.size _ new 25 (0, 0) (show wr.drew.heap[w1.heap.size]? = _ from HC.out))
   have HB2 := Aside0.mk (below_setRow (below_drew HB.out) HG.out new)
   have HNM := Aside0.mk hnm
   clear hn hnm hnew hnl
   go_wp2
   go_region
   all_goals
    have h_nm := HNM.out
    go_wp2
    go_roundg (m - (k + n))
    case measure => omega
    case rel => exact ⟨k + n, by omega, by omega, by omega, by rw [show wrap64 ((k : Int) + (n : Int)) = (((k + n : Nat)) : Int) from by unfold wrap64; omega], HC2, HB2⟩
  ·have hz : ¬ (k : Int) < (m : Int) := by omega
   have hke : k = m := by omega
   subst hke
   go_wp2
   go_ret
   refine ⟨_, rfl, HG.out, ?_, HB.out⟩
   have h_ := HC.out
   unfold rpL at h_
   rw [Nat.sub_self, List.replicate_zero, List.append_nil] at h_
   first | exact h_ | simpa using h_
end Go.Proofs.Ytkiloimggmpggaa

namespace Go.Proofs.Ytkiloimggmpggaa.L
open Go.RowKit Go.Proofs.Ytkiloimggmpggaa Go.Proofs.Ytkiloimggmpggaa.P Go.Proofs.YtkiloimggmpggaaW.PrintWords Go.Proofs.YtkiloimggmpggaaW.PrintLast Go.Proofs.YtkiloimggmpggaaW.PrintMore
set_option linter.unusedVariables false
set_option linter.unusedSimpArgs false

def nilV : Value := .slice none 0 0
/-- A table's own block: the rows' values. -/
def Slots (W : World) (g : Nat) (vs : List Value) : Prop := W.heap[g]? = some (.cells vs.toArray 53 (0, 0))
theorem Slots.below {W W' : World} {g : Nat} {vs : List Value} (h : Slots W g vs) (hb : Below W.heap.size W W') : Slots W' g vs := blk_below h hb
theorem Slots.of_eq {W W' : World} {g : Nat} {vs : List Value} (h : Slots W g vs) (he : W'.heap[g]? = W.heap[g]?) : Slots W' g vs := he.trans h
theorem Slots.put {W : World} {g : Nat} {vs : List Value} (h : Slots W g vs) (i : Nat) (v : Value) : Slots (W.setCell ⟨g, i, none⟩ v) g (vs.set i v) := blk_put h i v (by simp)
theorem Slots.cell {W : World} {g : Nat} {vs : List Value} (h : Slots W g vs) (i : Nat) (v : Value) (hv : vs[i]? = some v) : W.cell? ⟨g, i, none⟩ = some v := (blk_cell h i).trans (by simpa using hv)
theorem Slots.frozen {W : World} {g : Nat} {vs : List Value} (h : Slots W g vs) (i : Nat) : W.frozen? ⟨g, i, none⟩ = false := blk_frozen h i
theorem Slots.lt {W : World} {g : Nat} {vs : List Value} (h : Slots W g vs) : g < W.heap.size := by
 unfold Slots at h
 rcases Nat.lt_or_ge g W.heap.size with h2 | h2
 ·exact h2
 ·rw [Array.getElem?_eq_none h2] at h; cases h
theorem set_mid (vs : List Value) (u v : Value) (r : List Value) : (vs ++ u :: r).set vs.length v = vs ++ v :: r := by simp
theorem get_mid (vs : List Value) (u : Value) (r : List Value) (i : Nat) (h : vs.length = i) : (vs ++ u :: r)[i]? = some u := by subst h; simp
theorem nils_succ (m : Nat) (h : 0 < m) : List.replicate m nilV = nilV :: List.replicate (m - 1) nilV := by
 obtain ⟨k, rfl⟩ : ∃ k, m = k + 1 := ⟨m - 1, by omega⟩
 rw [List.replicate_succ, Nat.add_sub_cancel]
/-- The first rows of a table: what their values hold, in the blocks ok. -/
def RowsF (W : World) (ok : Nat → Prop) (vs : List Value) (T : List (List S25)) : Prop :=
 vs.length = T.length ∧ ∀ (k : Nat) (x : List S25), T[k]? = some x → ∃ A c, vs[k]? = some (.slice A x.length c) ∧ x.length ≤ c ∧ Kd.F k25 W ok A x.length x
theorem RowsF.nil (W : World) (ok : Nat → Prop) : RowsF W ok [] [] := ⟨rfl, fun k x h => by simp at h⟩
theorem RowsF.step {W W' : World} {ok : Nat → Prop} {vs : List Value} {T : List (List S25)} (h : RowsF W ok vs T) (hm : ∀ k, ok k → k < W.heap.size → W'.heap[k]? = W.heap[k]?) : RowsF W' ok vs T :=
 ⟨h.1, fun k x hx => by obtain ⟨A, c, h1, h2, h3⟩ := h.2 k x hx; exact ⟨A, c, h1, h2, Kd.F_step h3 hm⟩⟩
theorem RowsF.below {W W' : World} {ok : Nat → Prop} {vs : List Value} {T : List (List S25)} (h : RowsF W ok vs T) (hb : Below W.heap.size W W') : RowsF W' ok vs T := h.step fun k _ hk => hb.block k hk
theorem RowsF.mono {W : World} {ok ok' : Nat → Prop} {vs : List Value} {T : List (List S25)} (h : RowsF W ok vs T) (hk : ∀ k, ok k → ok' k) : RowsF W ok' vs T :=
 ⟨h.1, fun k x hx => by obtain ⟨A, c, h1, h2, h3⟩ := h.2 k x hx; exact ⟨A, c, h1, h2, Kd.F_mono h3 hk⟩⟩
theorem RowsF.bound {W : World} {ok : Nat → Prop} {vs : List Value} {T : List (List S25)} (h : RowsF W ok vs T) : RowsF W (fun k => ok k ∧ k < W.heap.size) vs T :=
 ⟨h.1, fun k x hx => by obtain ⟨A, c, h1, h2, h3⟩ := h.2 k x hx; exact ⟨A, c, h1, h2, Kd.F_bound h3⟩⟩
theorem RowsF.snoc {W : World} {ok : Nat → Prop} {vs : List Value} {T : List (List S25)} (h : RowsF W ok vs T) {x : List S25} {A : Option Addr} {c n : Nat} (hn : n = x.length) (hc : n ≤ c) (hF : Kd.F k25 W ok A n x) : RowsF W ok (vs ++ [.slice A n c]) (T ++ [x]) := by
 subst hn
 refine ⟨by simp [h.1], fun k y hy => ?_⟩
 by_cases hk : k < T.length
 ·rw [List.getElem?_append_left hk] at hy
  obtain ⟨A', c', h1, h2, h3⟩ := h.2 k y hy
  exact ⟨A', c', by rw [List.getElem?_append_left (by rw [h.1]; exact hk)]; exact h1, h2, h3⟩
 ·have hk2 : k = T.length := by
   have := (List.getElem?_eq_some_iff.1 hy).1
   simp at this; omega
  subst hk2
  simp at hy
  subst hy
  exact ⟨A, c, by rw [← h.1]; simp, hc, hF⟩
theorem addr0 (g j : Nat) : (⟨g, 0, none⟩ : Addr).add j = ⟨g, j, none⟩ := by
 unfold Addr.add
 split
 ·rename_i h; subst h; rfl
 ·simp
/-- A table that is whole can be read. -/
theorem RowsF.table {W : World} {ok : Nat → Prop} {vs : List Value} {T : List (List S25)} {g : Nat} (h : RowsF W ok vs T) (hs : Slots W g vs) (hn : T.length ≤ 1000) : Kd.F (Kd.slice 25 k25) W (fun k => ok k ∨ k = g) (some ⟨g, 0, none⟩) T.length T := by
 intro W' hW
 have hs' : Slots W' g vs := hs.of_eq (hW g (.inr rfl) hs.lt)
 refine ⟨rfl, by omega, fun _ => ⟨_, rfl, fun j p hj => ?_⟩⟩
 obtain ⟨A, c, h1, h2, h3⟩ := h.2 j p hj
 refine ⟨[.slice A p.length c], rfl, ⟨A, c, rfl, h2, h3 W' (fun k hk hlt => hW k (.inl hk) hlt)⟩, fun i u hu => ?_⟩
 rcases i with _ | i
 ·simp at hu
  subst hu
  rw [addr0]
  show W'.cell? ⟨g, j * 1 + 0, none⟩ = _
  rw [Nat.mul_one, Nat.add_zero]
  exact hs'.cell j _ h1
 ·simp at hu
/-- A block of fractions 1/1 can be read. -/
theorem ones_F {W : World} {g m : Nat} (hm : m ≤ 1000) (h : W.heap[g]? = some (.cells ((List.replicate (m * 2) (1 : Int)).map (Value.int .i64)).toArray 25 (0, 0))) : Kd.F k25 W (fun k => k = g) (some ⟨g, 0, none⟩) m (List.replicate m ⟨1, 1⟩) := by
 intro W' hW
 have hlt : g < W.heap.size := by
  rcases Nat.lt_or_ge g W.heap.size with h2 | h2
  ·exact h2
  ·rw [Array.getElem?_eq_none h2] at h; cases h
 have h' := (hW g rfl hlt).trans h
 refine ⟨by simp, by omega, fun _ => ⟨_, rfl, fun j p hj => ?_⟩⟩
 have hjm : j < m := by have := (List.getElem?_eq_some_iff.1 hj).1; simpa using this
 have hp : p = ⟨1, 1⟩ := by rw [List.getElem?_replicate, if_pos hjm] at hj; exact (Option.some.inj hj).symm
 subst hp
 refine ⟨[.int .i64 1, .int .i64 1], rfl, k25_mk _ ⟨1, 1⟩, fun i u hu => ?_⟩
 have hi : i < 2 := (List.getElem?_eq_some_iff.1 hu).1
 have hu2 : u = .int .i64 1 := by
  have : i = 0 ∨ i = 1 := by omega
  rcases this with rfl | rfl <;> (simp at hu; exact hu.symm)
 subst hu2
 rw [addr0]
 refine (blk_cell h' _).trans ?_
 show ((List.replicate (m * 2) (1 : Int)).map (Value.int .i64)).toArray[j * 2 + i]? = _
 rw [List.getElem?_toArray, List.getElem?_map, List.getElem?_replicate, if_pos (by omega)]
 rfl
def rdR (xs : List (List S25)) (i : Int) : List S25 := xs.getD i.toNat []
theorem at_R {w : World} {A : Option Addr} {n : Nat} {xs : List (List S25)} (h : Kd.C (Kd.slice 25 k25) w A n xs) (i : Int) (h0 : 0 ≤ i) (h1 : i < n) : ∃ ad A0 c0, A = some ad ∧ w.cell? (ad.add i.toNat) = some (.slice A0 (rdR xs i).length c0) ∧ (rdR xs i).length ≤ c0 ∧ k25.C w A0 (rdR xs i).length (rdR xs i) := by
 obtain ⟨ad, c, e, _, hK, hc0⟩ := Kd.C_get h ([] : List S25) i h0 h1
 have hc : ∀ j u, c[j]? = some u → w.cell? (ad.add (i.toNat * 1 + j)) = some u := hc0
 obtain ⟨A0, c0, rfl, l0, g0⟩ := hK
 exact ⟨ad, A0, c0, e, by have hq := hc 0 _ rfl; rwa [Nat.mul_one, Nat.add_zero] at hq, l0, g0⟩
/-- Two places of one row of a table. -/
theorem slot_at {W : World} {ok : Nat → Prop} {A : Option Addr} {n : Nat} {T : List (List S25)} (h : Kd.F (Kd.slice 25 k25) W ok A n T) (i : Nat) (hi : i < n) (m : Nat) (hm : (rdR T (i : Int)).length = m) :
  ∃ ad A1 c1, A = some ad ∧ W.cell? (ad.add i) = some (.slice A1 m c1) ∧ Kd.C k25 W A1 m (rdR T (i : Int)) := by
 obtain ⟨ad, A1, c1, e, h1, h2, h3⟩ := at_R (Kd.F_now h) (i : Int) (by omega) (by omega)
 rw [Int.toNat_natCast, hm] at h1
 rw [hm] at h3
 exact ⟨ad, A1, c1, e, h1, h3⟩
theorem place_at {W : World} {A : Option Addr} {n : Nat} {xs : List S25} (h : Kd.C k25 W A n xs) (k : Nat) (hk : k < n) (q : Q) (hq : rd_T25 xs (k : Int) = qS q) :
  ∃ ad, A = some ad ∧ W.cell? (ad.add (k * 2)) = some (.int .i64 q.n) ∧ W.cell? ⟨(ad.add (k * 2)).block, (ad.add (k * 2)).off + 1, none⟩ = some (.int .i64 q.d) := by
 obtain ⟨ad, e, h1, h2⟩ := at_T25 h (k : Int) (by omega) (by omega)
 rw [hq, Int.toNat_natCast] at h1 h2
 exact ⟨ad, e, h1, h2⟩
/-- The tables, as the program holds them. -/
def tS (T : List (List Q)) : List (List S25) := T.map fun r => r.map qS
theorem Sq.tS_len {T : List (List Q)} {m N D : Nat} (h : Sq T m N D) : (tS T).length = m := by rw [tS, List.length_map, h.len]
theorem Sq.tS_row {T : List (List Q)} {m N D : Nat} (h : Sq T m N D) (i : Nat) (hi : i < m) : (rdR (tS T) (i : Int)).length = m := by
 have h1 := h.row i hi
 have hl : i < T.length := by rw [h.len]; exact hi
 rw [List.getD_eq_getElem?_getD, List.getElem?_eq_getElem hl, Option.getD_some] at h1
 simp [rdR, tS, List.getD_eq_getElem?_getD, hl, h1]
theorem Sq.tS_at {T : List (List Q)} {m N D : Nat} (h : Sq T m N D) (i j : Nat) (hi : i < m) (hj : j < m) : rd_T25 (rdR (tS T) (i : Int)) (j : Int) = qS (at2 T i j) := by
 have h1 := h.row i hi
 have hl : i < T.length := by rw [h.len]; exact hi
 rw [List.getD_eq_getElem?_getD, List.getElem?_eq_getElem hl, Option.getD_some] at h1
 rw [at2_get i j hl (by omega)]
 simp [rd_T25, rdR, tS, List.getD_eq_getElem?_getD, hl, show j < T[i].length by omega]
theorem held7 {w W : World} {p1 p2 p3 p4 p5 p6 : Addr} {v1 v2 v3 v4 v5 v6 : Value} (hb : Below w.heap.size w W) (h1 : w.cell? p1 = some v1) (h2 : w.cell? p2 = some v2) (h3 : w.cell? p3 = some v3) (h4 : w.cell? p4 = some v4) (h5 : w.cell? p5 = some v5) (h6 : w.cell? p6 = some v6) :
  W.cell? p1 = some v1 ∧ W.cell? p2 = some v2 ∧ W.cell? p3 = some v3 ∧ W.cell? p4 = some v4 ∧ W.cell? p5 = some v5 ∧ W.cell? p6 = some v6 ∧ Below w.heap.size w W := ⟨pw_cell_below hb h1, pw_cell_below hb h2, pw_cell_below hb h3, pw_cell_below hb h4, pw_cell_below hb h5, pw_cell_below hb h6, hb⟩
end Go.Proofs.Ytkiloimggmpggaa.L
