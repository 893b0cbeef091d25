/- Texts of one chain, in build order. -/
import Derived.Test.YthbkjaieenochaaYCountByPattern6
import Derived.Laws.CopyOwn
namespace Go.Proofs.Ythbkjaieenochaa.L
open Go.RowKit Go.Proofs.Ythbkjaieenochaa Go.Proofs.Ythbkjaieenochaa.P Go.Proofs.YthbkjaieenochaaW.PrintWords Go.Proofs.YthbkjaieenochaaW.PrintLast Go.Proofs.YthbkjaieenochaaW.PrintMore
set_option linter.unusedVariables false

/-- A row that lies in the blocks from a to b alone. -/
structure OwnR (B a b : Nat) (w : World) (v : Value) (T : List Int) : Prop where
 s : Kd.R (Kd.int .i64) 3 w B (Itv a b) v T
 lo : B ≤ a
 hi : b ≤ w.heap.size
theorem OwnR.new {B : Nat} {w w' : World} {v : Value} {T : List Int} (h : Kd.R (Kd.int .i64) 3 w' w.heap.size (fun _ => True) v T) (hB : B ≤ w.heap.size) : OwnR B w.heap.size w'.heap.size w' v T :=
 ⟨Kd.R_lower (Kd.R_mono (Kd.R_bound h) (fun _ hk => ⟨hk.2.1, hk.2.2.1⟩)) hB, hB, Nat.le_refl _⟩
theorem OwnR.below {B a b : Nat} {w w' : World} {v : Value} {T : List Int} (h : OwnR B a b w v T) (hb : Below w.heap.size w w') : OwnR B a b w' v T :=
 ⟨Kd.R_kept h.s (Kept.of_below hb (fun _ => False)) (fun _ _ h => h), h.lo, Nat.le_trans h.hi hb.size⟩
theorem OwnR.kept {B a b c d : Nat} {w w' : World} {v : Value} {T : List Int} (h : OwnR B a b w v T) (hk : Kept w w' (Itv c d)) (hd : b ≤ c ∨ d ≤ a) : OwnR B a b w' v T :=
 ⟨Kd.R_kept h.s hk (fun k h1 h2 => by have := h1.1; have := h1.2; have := h2.1; have := h2.2; omega), h.lo, Nat.le_trans h.hi hk.1⟩
theorem OwnR.slice {B a b : Nat} {w : World} {v : Value} {T : List Int} (h : OwnR B a b w v T) : ∃ A c, v = .slice A T.length c ∧ T.length ≤ c := by
 obtain ⟨A, c, rfl⟩ := Kd.R_slice h.s
 exact ⟨A, c, rfl, (Kd.R_reads' h.s).2.1⟩
theorem OwnR.reads {B a b n c : Nat} {A : Option Addr} {w : World} {T : List Int} (h : OwnR B a b w (.slice A n c) T) : Kd.C (Kd.int .i64) w A T.length T := (Kd.R_reads' h.s).2.2
theorem OwnR.reads' {B a b n c m : Nat} {A : Option Addr} {w : World} {T : List Int} (h : OwnR B a b w (.slice A n c) T) (e : T.length = m) : Kd.C (Kd.int .i64) w A m T := e ▸ h.reads
/-- Marking. -/
theorem mark_ownR {B a b : Nat} {v : Value} {T : List Int} {W w : World} (hW : W.heap.size = B) (hB : Below B W w) (h : OwnR B a b w v T) (hf : T.length ≤ 1048576) :
  Calls Try.prog 20 #[v, .int .i64 1] w fun e w' => e = .returned (.int .i64 (1 + T.length : Nat)) ∧ OwnR B a b w' v (numR T.length 1) ∧ Below B W w' ∧ Kept w w' (Itv a b) := by
 subst hW
 obtain ⟨k, hk⟩ := (markIntS_ev T 1 (by omega)).rounds
 refine (laws_markIntS.calls k (Itv a b) v T (1 : Nat) _ _ W w hB h.s hk).mono ?_
 rintro e w' ⟨h1, h2, h3, h4⟩
 exact ⟨h1, ⟨Kd.R_flat (fun h => h) h2 (fun k hk _ => h.s.1 k hk), h.lo, Nat.le_trans h.hi h4.1⟩, h3, h4⟩
theorem eqIntS_ev (l : List Int) (hl : l.length ≤ 1048576) : Ev (fun k => laws_eqIntS.f k l l) true := by
 unfold laws_eqIntS.f
 exact Ev.ite_pos rfl (eqIntS_l0 l (by omega) l.length 0 (by omega))
end Go.Proofs.Ythbkjaieenochaa.L

namespace Go.Proofs.Ythbkjaieenochaa.Law
open Go.RowKit Go.Proofs.Ythbkjaieenochaa Go.Proofs.Ythbkjaieenochaa.P Go.Proofs.Ythbkjaieenochaa.L Go.Proofs.YthbkjaieenochaaW.PrintWords Go.Proofs.YthbkjaieenochaaW.PrintLast Go.Proofs.YthbkjaieenochaaW.PrintMore
set_option linter.unusedVariables false
set_option linter.unusedSimpArgs false

set_option maxHeartbeats 8000000 in
set_option maxRecDepth 100000 in
theorem lawCountByPattern (n : Int) (r : List Int) (b : Bool) (W : World) (hr : r.length ≤ 1048576)
  (hspec : ∀ W' : World, Calls Try.prog 34 #[.int .i64 n] W' (RetC (Kd.int .i64) W' r b))
  (himpl : ∀ W' : World, Calls Try.prog 35 #[.int .i64 n] W' (RetTR W' r b)) :
  Calls Try.prog 9 #[.int .i64 n] W fun e w' => e = .returned (.bool true) ∧ Below W.heap.size W w' := by
 have HSP := Aside0.mk hspec
 have HIM := Aside0.mk himpl
 have HB := Aside0.mk (Below.refl W.heap.size W)
 obtain ⟨kr, hkr⟩ := (eqIntS_ev r hr).rounds
 obtain ⟨kh, hkh⟩ := (heldIntS_ev r.length 1 (by omega)).rounds
 have HER := Aside0.mk (fun W' A0 c0 A1 c1 h0 g0 h1 g1 => laws_eqIntS.calls kr A0 c0 r A1 c1 r true W' h0 g0 h1 g1 hkr)
 have HHE := Aside0.mk (fun W' A0 c0 h0 g0 => laws_heldIntS.calls kh A0 c0 (numR r.length 1) 1 ((1 + r.length) : Nat) W' h0 g0 hkh)
 have HMG := Aside0.mk (fun (a b : Nat) (v : Value) (w : World) (hB : Below W.heap.size W w) (ho : OwnR W.heap.size a b w v r) => mark_ownR rfl hB ho hr)
 have hnr : ¬ (((1 + r.length) : Nat) : Int) < 0 := by omega
 have hml : (numR r.length 1).length = r.length := numR_length _ _
 obtain ⟨nr, hnre⟩ : ∃ n, n = (1 + r.length) := ⟨_, rfl⟩
 rw [← hnre] at HMG HHE hnr
 rw [hml] at HHE
 obtain ⟨mr, hmr⟩ : ∃ m, m = (numR r.length 1) := ⟨_, rfl⟩
 rw [← hmr] at HMG HHE hml
 have HML := Aside0.mk hml
 clear hr hspec himpl hkr hkh hnre hmr hml
 go_enter Try.func9, Try.ntmps9
 go_wp2_with (first
  | (go_at_call 34; refine (HSP.out _).mono ?_; rintro e w1 ⟨Aw, cw, rfl, hcw, hC, hb⟩; have HW := Aside0.mk (Old.new (Kd.heap_int .i64) hC); have HWc := Aside0.mk hcw; (have n_ := Aside0.mk (below_step HB.out hb)); clear HB; have HB := n_; clear hb hC hcw)
  | (go_at_call 35; have hg_ := HG; clear hg_; refine (HIM.out _).mono ?_; rintro e w1 ⟨v, rfl, hS, hb⟩; have ho := OwnR.new hS HB.out.size; clear hS; obtain ⟨Ah, ch, rfl, hch⟩ := ho.slice; (try (have n_ := Aside0.mk (HW.out.below hb); clear HW; have HW := n_)); (try (have n_ := Aside0.mk (HG.out.below hb); clear HG; have HG := n_)); (try (have n_ := Aside0.mk (HG1.out.below hb); clear HG1; have HG1 := n_)); (have n_ := Aside0.mk (below_step HB.out hb)); clear HB; have HB := n_; clear hb; have HG1 := Aside0.mk ho; have HG1c := Aside0.mk hch; clear ho hch)
  | (go_at_call 35; refine (HIM.out _).mono ?_; rintro e w1 ⟨v, rfl, hS, hb⟩; have ho := OwnR.new hS HB.out.size; clear hS; obtain ⟨Ag, cg, rfl, hcg⟩ := ho.slice; have HD13 := Aside0.mk HW.out.hi; (try (have n_ := Aside0.mk (HW.out.below hb); clear HW; have HW := n_)); (try (have n_ := Aside0.mk (HG.out.below hb); clear HG; have HG := n_)); (try (have n_ := Aside0.mk (HG1.out.below hb); clear HG1; have HG1 := n_)); (have n_ := Aside0.mk (below_step HB.out hb)); clear HB; have HB := n_; clear hb; have HG := Aside0.mk ho; have HGc := Aside0.mk hcg; clear ho hcg)
  | (go_at_call 19; (first | (with_reducible refine (HER.out _ _ _ _ _ HG.out.reads HGc.out HW.out.reads HWc.out).mono ?_) | (with_reducible refine (HER.out _ _ _ _ _ HG1.out.reads HG1c.out HW.out.reads HWc.out).mono ?_)); rintro e w1 ⟨rfl, hd⟩; have hb := hd.below; clear hd; (try (have n_ := Aside0.mk (HW.out.below hb); clear HW; have HW := n_)); (try (have n_ := Aside0.mk (HG.out.below hb); clear HG; have HG := n_)); (try (have n_ := Aside0.mk (HG1.out.below hb); clear HG1; have HG1 := n_)); (have n_ := Aside0.mk (below_step HB.out hb)); clear HB; have HB := n_; clear hb)
  | (go_at_call 20; (with_reducible refine (HMG.out _ _ _ _ HB.out HG.out).mono ?_); rintro e w1 ⟨rfl, ho, hb, hk⟩; have n1_ := Aside0.mk (HW.out.kept hk HD13.out); clear HW HG HB hk; have HW := n1_; have HG := Aside0.mk ho; have HB := Aside0.mk hb; clear n1_ hb ho)
  | (go_at_call 21; (with_reducible refine (HHE.out _ _ _ (HG.out.reads' HML.out) HGc.out).mono ?_); rintro e w1 ⟨rfl, hd⟩; have hb := hd.below; clear hd; (try (have n_ := Aside0.mk (HW.out.below hb); clear HW; have HW := n_)); (try (have n_ := Aside0.mk (HG.out.below hb); clear HG; have HG := n_)); (try (have n_ := Aside0.mk (HG1.out.below hb); clear HG1; have HG1 := n_)); (have n_ := Aside0.mk (below_step HB.out hb)); clear HB; have HB := n_; clear hb))
 go_ret
 exact ⟨rfl, HB.out⟩
end Go.Proofs.Ythbkjaieenochaa.Law

namespace Go.Proofs.Ythbkjaieenochaa.P
open Go.RowKit Go.Proofs.YthbkjaieenochaaW.PrintWords Go.Proofs.YthbkjaieenochaaW.PrintLast Go.Proofs.YthbkjaieenochaaW.PrintMore
attribute [local go_sem] max2_int min2_int max_two min_two max_three min_three max_four min_four   -- for this text's walks alone
set_option linter.unusedVariables false
set_option linter.unusedSimpArgs false

def bits_Mul64.f (a0 : Int) (a1 : Int) : Option (Int × Int) := some (IntKind.u64.wrap ((IntKind.u64.wrap ((IntKind.u64.wrap ((a0 / 4294967296) * (a1 / 4294967296))) + ((IntKind.u64.wrap ((IntKind.u64.wrap ((a0 / 4294967296) * (Go.bits .and .u64 a1 4294967295))) + ((IntKind.u64.wrap ((Go.bits .and .u64 a0 4294967295) * (Go.bits .and .u64 a1 4294967295))) / 4294967296))) / 4294967296))) + ((IntKind.u64.wrap ((Go.bits .and .u64 (IntKind.u64.wrap ((IntKind.u64.wrap ((a0 / 4294967296) * (Go.bits .and .u64 a1 4294967295))) + ((IntKind.u64.wrap ((Go.bits .and .u64 a0 4294967295) * (Go.bits .and .u64 a1 4294967295))) / 4294967296))) 4294967295) + (IntKind.u64.wrap ((Go.bits .and .u64 a0 4294967295) * (a1 / 4294967296))))) / 4294967296)), IntKind.u64.wrap (a0 * a1))
set_option maxHeartbeats 8000000 in
set_option maxRecDepth 100000 in
theorem bits_Mul64.calls (a0 : Int) (a1 : Int) (r1 : Int) (r2 : Int) (w : World) (h : bits_Mul64.f a0 a1 = some (r1, r2)) :
  Calls Try.prog 112 #[.int .u64 a0, .int .u64 a1] w fun e w' => e = .returned (.tuple #[.int .u64 r1, .int .u64 r2]) ∧ Drawn0 w w' := by
 have H : (some (IntKind.u64.wrap ((IntKind.u64.wrap ((IntKind.u64.wrap ((a0 / 4294967296) * (a1 / 4294967296))) + ((IntKind.u64.wrap ((IntKind.u64.wrap ((a0 / 4294967296) * (Go.bits .and .u64 a1 4294967295))) + ((IntKind.u64.wrap ((Go.bits .and .u64 a0 4294967295) * (Go.bits .and .u64 a1 4294967295))) / 4294967296))) / 4294967296))) + ((IntKind.u64.wrap ((Go.bits .and .u64 (IntKind.u64.wrap ((IntKind.u64.wrap ((a0 / 4294967296) * (Go.bits .and .u64 a1 4294967295))) + ((IntKind.u64.wrap ((Go.bits .and .u64 a0 4294967295) * (Go.bits .and .u64 a1 4294967295))) / 4294967296))) 4294967295) + (IntKind.u64.wrap ((Go.bits .and .u64 a0 4294967295) * (a1 / 4294967296))))) / 4294967296)), IntKind.u64.wrap (a0 * a1))) = some (r1, r2) := h
 clear h
 simp only [Option.some.injEq, Prod.mk.injEq] at H
 obtain ⟨rfl, rfl⟩ := H
 go_enter Try.func112, Try.ntmps112
 go_wp2
 go_ret2
 exact ⟨by first | rfl | (simp; done) | (simp [*]; done), by repeat (first | exact Drawn0.refl _ | apply Drawn0.step)⟩

end Go.Proofs.Ythbkjaieenochaa.P

namespace Go.Proofs.Ythbkjaieenochaa.P
open Go.RowKit Go.Proofs.YthbkjaieenochaaW.PrintWords Go.Proofs.YthbkjaieenochaaW.PrintLast Go.Proofs.YthbkjaieenochaaW.PrintMore
attribute [local go_sem] max2_int min2_int max_two min_two max_three min_three max_four min_four   -- for this text's walks alone
set_option linter.unusedVariables false
set_option linter.unusedSimpArgs false

def bits_Mul.f (a0 : Int) (a1 : Int) : Option (Int × Int) := (bits_Mul64.f a0 a1).bind fun bt133 => (some (bt133.1, bt133.2))
set_option maxHeartbeats 8000000 in
set_option maxRecDepth 100000 in
theorem bits_Mul.calls (a0 : Int) (a1 : Int) (r1 : Int) (r2 : Int) (w : World) (h : bits_Mul.f a0 a1 = some (r1, r2)) :
  Calls Try.prog 101 #[.int .u64 a0, .int .u64 a1] w fun e w' => e = .returned (.tuple #[.int .u64 r1, .int .u64 r2]) ∧ Drawn0 w w' := by
 have H : ((bits_Mul64.f a0 a1).bind fun bt133 => (some (bt133.1, bt133.2))) = some (r1, r2) := h
 clear h
 replace H := Option.bind_eq_some_iff.mp H
 obtain ⟨⟨t133, t134⟩, A30, H⟩ := H
 replace H : (some (t133, t134)) = some (r1, r2) := H
 have A3 := Aside0.mk A30
 clear A30
 simp only [Option.some.injEq, Prod.mk.injEq] at H
 obtain ⟨rfl, rfl⟩ := H
 go_enter Try.func101, Try.ntmps101
 go_wp2_with (first | ((with_reducible refine gate_callee (f := 112) rfl ?_); refine goesL_ (some 25) rfl rfl Try.func112 (by kernel_rfl) rfl #[.int .u64 a0, .int .u64 a1] rfl (by (try simp only [List.map_toArray, List.map_cons, List.map_nil]); first | done | rfl | (simp only [List.length_drop, List.length_take]; rfl)) ?_; (with_reducible refine (bits_Mul64.calls a0 a1 t133 t134 _ A3.out).mono ?_); rintro e w' ⟨rfl, ⟨nd, rfl⟩⟩; refine ⟨_, rfl, ?_⟩))
 go_ret2
 exact ⟨by first | rfl | (simp; done) | (simp [*]; done), by repeat (first | exact Drawn0.refl _ | apply Drawn0.step)⟩

end Go.Proofs.Ythbkjaieenochaa.P

namespace Go.Proofs.Ythbkjaieenochaa
open Go.RowKit Go.Proofs.Ythbkjaieenochaa.P Go.Proofs.YthbkjaieenochaaW.PrintWords Go.Proofs.YthbkjaieenochaaW.PrintLast Go.Proofs.YthbkjaieenochaaW.PrintMore
set_option linter.unusedVariables false
set_option linter.unusedSimpArgs false

/-- The row while it is filled: k numbers v are there. -/
def rpL (v : Int) (k m : Nat) : List Int := List.replicate k v ++ List.replicate (m - k) 0
theorem rpL_splice (v : Int) (k m n : Nat) (h : k + n ≤ m) : splice ((rpL v k m).map (Value.int .i64)) k ((List.replicate n v).map (Value.int .i64)) = (rpL v (k + n) m).map (Value.int .i64) := by
 unfold splice rpL
 simp only [List.map_append, List.map_replicate]
 rw [List.take_append_of_le_length (by simp), List.take_of_length_le (by simp), List.drop_append, List.drop_eq_nil_of_le (by simp)]
 simp only [List.nil_append, List.length_replicate, List.drop_replicate]
 rw [← List.append_assoc, List.replicate_append_replicate]
 congr 2
 omega
theorem rpL_at (v : Int) (k m j : Nat) (h : j < k) : ((rpL v k m).map (Value.int .i64))[j]? = some (.int .i64 v) := by
 unfold rpL
 rw [List.map_append, List.getElem?_append_left (by simpa using h)]
 simp [List.getElem?_replicate, h]
theorem size_int : (Try.prog.info? 3).map (·.size) = some 1 := by kernel_rfl
theorem rp_cell {W : World} {g k m n j : Nat} {v : Int} {u : Value} (h : W.heap[g]? = some (.cells ((rpL v k m).map (Value.int .i64)).toArray 3 (0, 0))) (hu : ((List.replicate n v).map (Value.int .i64))[j]? = some u) (hn : n ≤ k) : W.drew.cell? ((⟨g, 0, none⟩ : Addr).add j) = some u := by
 have hj : j < n := by
  have := (List.getElem?_eq_some_iff.1 hu).1
  simpa using this
 have hu2 : u = .int .i64 v := by
  simp [List.getElem?_replicate, hj] at hu
  exact hu.symm
 subst hu2
 have h1 := (blk_cell h j).trans (by rw [List.getElem?_toArray, rpL_at v k m j (by omega)] : _ = some (Value.int .i64 v))
 have h2 : ((⟨g, 0, none⟩ : Addr).add j) = ⟨g, j, none⟩ := by
  simp [Addr.add]
  intro h0; omega
 rw [h2]
 exact h1
set_option maxHeartbeats 4000000 in
theorem slices_Repeat1.calls (v : Int) (g m : Nat) (w : World) (h1 : 1 ≤ m) (h2 : m ≤ 1000) (hmul : bits_Mul.f 1 (m : Int) = some (0, (m : Int))) (hg : w.cell? ⟨g, 0, none⟩ = some (.int .i64 v)) :
  Calls Try.prog 74 #[.slice (some ⟨g, 0, none⟩) 1 1, .int .i64 m] w fun e w' => ∃ g2 : Nat, e = .returned (.slice (some ⟨g2, 0, none⟩) m m) ∧ w.heap.size ≤ g2 ∧ intBlk w' g2 (List.replicate m v) ∧ Below w.heap.size w w' := by
 have mk1 : ∀ W : World, Sem.run Try.prog (Instr.makeSlice 28 (.int .i64 m) (.int .i64 m)) W = Result.ok (Value.slice (some ⟨W.heap.size, 0, none⟩) m m) (W.alloc (.cells (madeCells #[.int .i64 0] m) 3)) := fun W => run_make_row' (P := Try.prog) 28 3 (.int .i64 0) 8 Try.underlying28 info_ints rfl .i64 .i64 m (by omega) (by omega) W
 have hm1 : IntKind.u64.wrap (m : Int) = m := by rw [IntKind.wrap_u64]; omega
 have hm2 : ¬ (m : Int) < 0 := by omega
 have hm3 : ¬ (m : Int) > 9223372036854775807 := by omega
 go_enter Try.func74, Try.ntmps74
 have hmin : Nat.min 1 m = 1 := by show min 1 m = 1; omega
 go_wp2_with (first
  | (go_at_call 101; refine (bits_Mul.calls 1 m 0 m _ hmul).mono ?_; rintro e w1 ⟨rfl, hd⟩; have hgv := pw_cell_below hd.below hg; have HB := Aside0.mk (below_alloc hd.below (.cells (madeCells #[.int .i64 0] m) 3)); have HG := Aside0.mk hd.below.size; have HC := Aside0.mk (show (w1.alloc (.cells (madeCells #[.int .i64 0] m) 3)).heap[w1.heap.size]? = some (.cells ((rpL v 0 m).map (Value.int .i64)).toArray 3 (0, 0)) from by rw [madeInts]; simpa [rpL] using blk_new w1 (.cells ((List.replicate m (0 : Int)).map (Value.int .i64)).toArray 3)); clear hd)
  | ((with_reducible refine gate_builtin (b := .copy) (xs := #[.tmp 31, .tmp 32]) rfl ?_); refine wpList_copy_splice rfl (.tmp 31) (.tmp 32) 28 28 rfl 3 Try.underlying28 size_int (some ⟨w1.heap.size, 0, none⟩) (some ⟨g, 0, none⟩) m m 1 1 rfl rfl w1.heap.size 0 ((rpL v 0 m).map (Value.int .i64)) 3 HC.out ((List.replicate 1 v).map (Value.int .i64)) ?hn ?hpos ?hfit ?h1 w.heap.size w HB.out HG.out ?_; (case hn => (rw [hmin]; simp)); (case hpos => exact fun _ => ⟨rfl, _, rfl, fun j u hu => by cases j with | zero => (simp at hu; subst hu; exact pw_cell_below (below_alloc (Below.refl _ _) _) hgv) | succ j => simp at hu⟩); (case hfit => simp [rpL]; omega); (case h1 => exact fun u hu => by simp at hu; subst hu; rfl); intro w2 hg2 hb2; have hg3 := hg2; rw [rpL_splice v 0 m 1 (by omega)] at hg3; have HC2 := Aside0.mk (show w2.heap[w1.heap.size]? = _ from hg3); have HB2 := Aside0.mk hb2; clear hg2 hb2 hg3))
 go_loopg [8] m (fun gg s8 wr => ∃ k : Nat, 1 ≤ k ∧ k ≤ m ∧ m - k ≤ gg ∧ s8 = .int .i64 k ∧ Aside0 (wr.heap[w1.heap.size]? = some (.cells ((rpL v k m).map (Value.int .i64)).toArray 3 (0, 0))) ∧ Aside0 (Below w.heap.size w wr))
 case atStart => exact ⟨1, by omega, by omega, by omega, by first | rfl | simp [goInt], HC2, HB2⟩
 case round =>
  clear HC HB HC2 HB2
  obtain ⟨k, hk1, hkm, hgk, rfl, HC, HB⟩ := hrel
  by_cases hlt : k < m
  ·have hz : (k : Int) < (m : Int) := by omega
   have hkm2 : k ≤ m := by omega
   have hk0 : (0 : Int) ≤ (k : Int) := by omega
   have hk1' : (k : Int) ≤ (m : Int) := by omega
   have hmk : ¬ m = k := by omega
   obtain ⟨n, hn⟩ : ∃ n, n = Nat.min k (m - k) := ⟨_, rfl⟩
   have hnm : 1 ≤ n ∧ k + n ≤ m := by rw [hn]; show 1 ≤ min k (m - k) ∧ k + min k (m - k) ≤ m; omega
   obtain ⟨new, hnew⟩ : ∃ new, new = ((((rpL v k m).map (Value.int .i64)).toArray.toList.take k ++ (List.replicate n v).map (Value.int .i64) ++ ((rpL v k m).map (Value.int .i64)).toArray.toList.drop (k + ((List.replicate n v).map (Value.int .i64)).length)).toArray) := ⟨_, rfl⟩
   have hrun : Sem.run Try.prog (Builtin.copy_ #[28, 28] 3 #[.slice (some ⟨w1.heap.size, k, none⟩) (m - k) (m - k), .slice (some ⟨w1.heap.size, 0, none⟩) k m]) wr.drew = .ok (.int .i64 n) (wr.drew.setRow w1.heap.size new) := by
    have h_ := run_copy_row (P := Try.prog) wr.drew 28 28 3 3 w1.heap.size k (m - k) (m - k) ⟨w1.heap.size, 0, none⟩ k m ((rpL v k m).map (Value.int .i64)).toArray 3 ((List.replicate n v).map (Value.int .i64)) Try.underlying28 size_int (show wr.drew.heap[w1.heap.size]? = _ from HC.out) (by rw [← hn]; simp) (fun j u hu => rp_cell HC.out hu (by rw [hn]; exact Nat.min_le_left _ _)) (by simp [rpL]; omega) (fun u hu => by simp at hu; rw [hu.2]; rfl)
    rw [← hnew] at h_
    rw [h_]
    simp [goInt]
   have hnl : new = ((rpL v (k + n) m).map (Value.int .i64)).toArray := by
    rw [hnew, ← rpL_splice v k m n hnm.2]
    simp [splice]
   have HC2 := Aside0.mk (show (wr.drew.setRow w1.heap.size new).heap[w1.heap.size]? = some (.cells ((rpL v (k + n) m).map (Value.int .i64)).toArray 3 (0, 0)) from by rw [← hnl]; exact setRow_heap wr.drew w1.heap.size _ new 3 (0, 0) (show wr.drew.heap[w1.heap.size]? = _ from HC.out))
   have HB2 := Aside0.mk (below_setRow (below_drew HB.out) HG.out new)
   have HNM := Aside0.mk hnm
   clear hn hnm hnew hnl
   go_wp2
   go_region
   all_goals
    have h_nm := HNM.out
    go_wp2
    go_roundg (m - (k + n))
    case measure => omega
    case rel => exact ⟨k + n, by omega, by omega, by omega, by rw [show wrap64 ((k : Int) + (n : Int)) = (((k + n : Nat)) : Int) from by unfold wrap64; omega], HC2, HB2⟩
  ·have hz : ¬ (k : Int) < (m : Int) := by omega
   have hke : k = m := by omega
   subst hke
   go_wp2
   go_ret
   refine ⟨_, rfl, HG.out, ?_, HB.out⟩
   have h_ := HC.out
   unfold rpL at h_
   rw [Nat.sub_self, List.replicate_zero, List.append_nil] at h_
   exact h_
end Go.Proofs.Ythbkjaieenochaa

namespace Go.Proofs.Ythbkjaieenochaa.P
open Go.RowKit Go.Proofs.YthbkjaieenochaaW.PrintWords Go.Proofs.YthbkjaieenochaaW.PrintLast Go.Proofs.YthbkjaieenochaaW.PrintMore
attribute [local go_sem] max2_int min2_int max_two min_two max_three min_three max_four min_four   -- for this text's walks alone
set_option linter.unusedVariables false
set_option linter.unusedSimpArgs false

def impl_joined.f (l0 : List Int) (a1 : Int) (a2 : Int) : Option (List Int) := (slices_Clone_int_int.f l0).bind fun t731 => (if 0 ≤ a1 then (if a1 < (t731.length : Int) then (if 0 ≤ a2 then (if a2 < (t731.length : Int) then (some ((t731.set (a1 : Int).toNat a2).set (a2 : Int).toNat a1)) else (none)) else (none)) else (none)) else (none))
set_option maxHeartbeats 8000000 in
set_option maxRecDepth 100000 in
theorem impl_joined.calls (A0 : Option Addr) (c0 : Nat) (l0 : List Int) (a1 : Int) (a2 : Int) (r : List Int) (w : World) (hr0 : Kd.C (Kd.int .i64) w A0 l0.length l0) (hc0 : l0.length ≤ c0) (h : impl_joined.f l0 a1 a2 = some r) :
  Calls Try.prog 73 #[.slice A0 l0.length c0, .int .i64 a1, .int .i64 a2] w fun e w' => ∃ v0_ : Value, e = .returned (v0_) ∧ Kd.R (Kd.int .i64) 3 w' w.heap.size (fun _ => True) v0_ r ∧ Below w.heap.size w w' := by
 have HR0 := Aside0.mk hr0
 have HC0 := Aside0.mk hc0
 clear hr0 hc0
 have HB := Aside0.mk (Below.refl w.heap.size w)
 have H : ((slices_Clone_int_int.f l0).bind fun t731 => (if 0 ≤ a1 then (if a1 < (t731.length : Int) then (if 0 ≤ a2 then (if a2 < (t731.length : Int) then (some ((t731.set (a1 : Int).toNat a2).set (a2 : Int).toNat a1)) else (none)) else (none)) else (none)) else (none))) = some r := h
 clear h
 replace H := Option.bind_eq_some_iff.mp H
 obtain ⟨t731, A40, H⟩ := H
 replace H : (if 0 ≤ a1 then (if a1 < (t731.length : Int) then (if 0 ≤ a2 then (if a2 < (t731.length : Int) then (some ((t731.set (a1 : Int).toNat a2).set (a2 : Int).toNat a1)) else (none)) else (none)) else (none)) else (none)) = some r := H
 have A4 := Aside0.mk A40
 clear A40
 by_cases c5 : 0 ≤ a1
 ·rw [if_pos c5] at H
  have c5b0 : decide (0 ≤ a1) = true := decide_eq_true c5
  clear c5
  by_cases c6 : a1 < (t731.length : Int)
  ·rw [if_pos c6] at H
   have c6b0 : decide (a1 < (t731.length : Int)) = true := decide_eq_true c6
   clear c6
   obtain ⟨y734, hy734⟩ : ∃ y_ : List Int, y_ = (t731.set (a1 : Int).toNat a2) := ⟨_, rfl⟩
   replace H : (if 0 ≤ a2 then (if a2 < (t731.length : Int) then (some (y734.set (a2 : Int).toNat a1)) else (none)) else (none)) = some r := by first | (rw [hy734]; with_reducible exact H) | (have H2_ := (Option.bind_some _ _).symm.trans H; rw [hy734]; with_reducible exact H2_) | (have H2_ := (Option.bind_some _ _).symm.trans H; with_reducible exact H2_) | with_reducible exact H | (rw [hy734]; exact H) | exact H
   have Ny734 := Aside0.mk hy734
   clear hy734
   by_cases c8 : 0 ≤ a2
   ·rw [if_pos c8] at H
    have c8b0 : decide (0 ≤ a2) = true := decide_eq_true c8
    clear c8
    by_cases c9 : a2 < (t731.length : Int)
    ·rw [if_pos c9] at H
     have c9b0 : decide (a2 < (t731.length : Int)) = true := decide_eq_true c9
     clear c9
     obtain ⟨y735, hy735⟩ : ∃ y_ : List Int, y_ = (y734.set (a2 : Int).toNat a1) := ⟨_, rfl⟩
     replace H : (some y735) = some r := by first | (rw [hy735]; with_reducible exact H) | (have H2_ := (Option.bind_some _ _).symm.trans H; rw [hy735]; with_reducible exact H2_) | (have H2_ := (Option.bind_some _ _).symm.trans H; with_reducible exact H2_) | with_reducible exact H | (rw [hy735]; exact H) | exact H
     have Ny735 := Aside0.mk hy735
     clear hy735
     obtain rfl := Option.some.inj H
     go_enter Try.func73, Try.ntmps73
     go_wp2_with (first | ((with_reducible refine gate_callee (f := 100) rfl ?_); refine goesL_ (some 9) rfl rfl Try.func100 (by kernel_rfl) rfl #[.slice A0 l0.length c0] rfl (by (try simp only [List.map_toArray, List.map_cons, List.map_nil]); first | done | rfl | (simp only [List.length_drop, List.length_take]; rfl)) ?_; (with_reducible refine (slices_Clone_int_int.calls _ _ l0 t731 _ ?side1 ?side2 A4.out).mono ?_); (case side1 => repeat (first | exact HR0.out | (with_reducible refine Kd.C_alloc ?_ _) | (with_reducible refine Kd.C_drewN ?_ _) | (with_reducible refine Kd.C_drew ?_))); (case side2 => exact HC0.out); rintro e w11 ⟨v732, rfl, ho0, hb⟩; refine ⟨_, rfl, ?_⟩; have n0_ := Aside0.mk (Kd.R_lower ho0 (below_size (by repeat (first | (with_reducible first | exact HB.out | apply below_alloc | apply pw_below_drewN | apply below_drew1) | exact HB.out)))); have n1_ := Aside0.mk (below_step (by repeat (first | (with_reducible first | exact HB.out | apply below_alloc | apply pw_below_drewN | apply below_drew1) | exact HB.out)) hb); clear HB; have HO733 := n0_; have HB := n1_; clear n0_ n1_; (try clear hb); (try clear hb2); (try clear hk); (try clear hi); (try clear ho0); have p7 : 0 ≤ (a1 : Int) := of_decide_eq_true (by first | (with_reducible assumption) | assumption); have q7 : (a1 : Int) < ((t731.length : Int) : Int) := of_decide_eq_true (by first | (with_reducible assumption) | assumption); obtain ⟨go7, co7, eo7, gb7, gl7, cl7, HG7⟩ := Kd.R_form HO733.out (by omega); (first | cases eo7 | (injection eo7 with ea_ en_ ec_; (first | subst ea_ | (injection ea_ with ea_; subst ea_)); subst ec_; clear en_)); have GB7 := Aside0.mk gb7; have GG7 := Aside0.mk HG7; clear gb7 gl7 HG7; obtain ⟨hx7_0, hf7_0⟩ := Kd.R_celln 0 HO733.out (a1 : Int) p7 q7; replace p7 := eq_true p7; replace q7 := eq_true q7; obtain ⟨hy12_, hz12_⟩ := Kd.R_celln 0 HO733.out (a1 : Int) (of_decide_eq_true (by first | (with_reducible assumption) | assumption)) (of_decide_eq_true (by first | (with_reducible assumption) | assumption)); have HP12 := Kd.R_putg HO733.out (a1 : Int) a2) | ((with_reducible refine gate_store (t := 3) (p := 16) rfl ?_); refine store_event (t := 3) (p := 16) (v := ?vo_w13) (w1 := (w11.setCell ⟨go7, (a1 : Int).toNat, none⟩ (.int .i64 a2))) ?hg ?ho ?hn ?hr ?_; (case ho => rfl); (case hg => rfl); (case hn => rfl); (case hr => first | (go_simp; done) | (go_simp; rfl)); intro w13 hw; have hg : w11.grownBy w13 (some go7) := (by rw [hw]; exact HP12.2); have hp_ : Kd.R (Kd.int .i64) 3 w13 w.heap.size (fun _ => True) (.slice (some ⟨go7, 0, none⟩) t731.length co7) y734 := (by rw [hw, Ny734.out]; exact HP12.1); clear HP12; have n0_ := Aside0.mk (hp_); have n1_ := Aside0.mk ((by rw [hw]; exact below_set (HB.out) GB7.out : Below w.heap.size w w13)); clear HO733; clear HB; have HO733 := n0_; have HB := n1_; clear n0_ n1_; clear hg hw hp_; have p10 : 0 ≤ (a2 : Int) := of_decide_eq_true (by first | (with_reducible assumption) | assumption); have q10 : (a2 : Int) < ((t731.length : Int) : Int) := of_decide_eq_true (by first | (with_reducible assumption) | assumption); obtain ⟨hx10_0, hf10_0⟩ := Kd.R_celln 0 HO733.out (a2 : Int) p10 q10; replace p10 := eq_true p10; replace q10 := eq_true q10; obtain ⟨hy14_, hz14_⟩ := Kd.R_celln 0 HO733.out (a2 : Int) (of_decide_eq_true (by first | (with_reducible assumption) | assumption)) (of_decide_eq_true (by first | (with_reducible assumption) | assumption)); have HP14 := Kd.R_putg HO733.out (a2 : Int) a1) | ((with_reducible refine gate_store (t := 3) (p := 17) rfl ?_); refine store_event (t := 3) (p := 17) (v := ?vo_w15) (w1 := (w13.setCell ⟨go7, (a2 : Int).toNat, none⟩ (.int .i64 a1))) ?hg ?ho ?hn ?hr ?_; (case ho => rfl); (case hg => rfl); (case hn => rfl); (case hr => first | (go_simp; done) | (go_simp; rfl)); intro w15 hw; have hg : w13.grownBy w15 (some go7) := (by rw [hw]; exact HP14.2); have hp_ : Kd.R (Kd.int .i64) 3 w15 w.heap.size (fun _ => True) (.slice (some ⟨go7, 0, none⟩) t731.length co7) y735 := (by rw [hw, Ny735.out]; exact HP14.1); clear HP14; have n0_ := Aside0.mk (hp_); have n1_ := Aside0.mk ((by rw [hw]; exact below_set (HB.out) GB7.out : Below w.heap.size w w15)); clear HO733; clear HB; have HO733 := n0_; have HB := n1_; clear n0_ n1_; clear hg hw hp_))
     go_ret
     exact ⟨_, by first | rfl | (simp [errW_none, errW_some] <;> rfl) | (simp [*, errW_none, errW_some] <;> rfl), by (with_reducible repeat (first | apply Kd.R_alloc | apply Kd.R_drewN | apply Kd.R_drew)); exact HO733.out, by repeat (first | (with_reducible first | exact HB.out | apply below_alloc | apply pw_below_drewN | apply below_drew1) | exact HB.out)⟩
    ·rw [if_neg c9] at H
     exact absurd H (by simp)
   ·rw [if_neg c8] at H
    exact absurd H (by simp)
  ·rw [if_neg c6] at H
   exact absurd H (by simp)
 ·rw [if_neg c5] at H
  exact absurd H (by simp)

end Go.Proofs.Ythbkjaieenochaa.P

namespace Go.Proofs.Ythbkjaieenochaa.P
open Go.RowKit Go.Proofs.YthbkjaieenochaaW.PrintWords Go.Proofs.YthbkjaieenochaaW.PrintLast Go.Proofs.YthbkjaieenochaaW.PrintMore
attribute [local go_sem] max2_int min2_int max_two min_two max_three min_three max_four min_four   -- for this text's walks alone
set_option linter.unusedVariables false
set_option linter.unusedSimpArgs false

def slices_Index_int_int.l0 : Nat → List Int → Int → Int → Int → Option (Int)
 | 0, _, _, _, _ => none
 | k + 1, x0, x1, x7, x8 => if x8 < x7 then (if 0 ≤ x8 then (if x8 < (x0.length : Int) then (if x1 = (rd x0 x8) then (some x8) else (slices_Index_int_int.l0 k x0 x1 x7 (wrap64 (x8 + 1)))) else (none)) else (none)) else (some (-1))
def slices_Index_int_int.f (k : Nat) (l0 : List Int) (a1 : Int) : Option (Int) := slices_Index_int_int.l0 k l0 a1 (l0.length : Int) 0
set_option maxHeartbeats 8000000 in
set_option maxRecDepth 100000 in
theorem slices_Index_int_int.calls (k : Nat) (A0 : Option Addr) (c0 : Nat) (l0 : List Int) (a1 : Int) (r : Int) (w : World) (hr0 : Kd.C (Kd.int .i64) w A0 l0.length l0) (hc0 : l0.length ≤ c0) (h : slices_Index_int_int.f k l0 a1 = some r) :
  Calls Try.prog 72 #[.slice A0 l0.length c0, .int .i64 a1] w fun e w' => e = .returned (.int .i64 r) ∧ Drawn0 w w' := by
 have HR0 := Aside0.mk hr0
 have HC0 := Aside0.mk hc0
 clear hr0 hc0
 have H : (slices_Index_int_int.l0 k l0 a1 (l0.length : Int) 0) = some r := h
 clear h
 have H' := Aside0.mk H
 clear H
 go_enter Try.func72, Try.ntmps72
 go_wp2
 go_loopg [8] k (fun kq v8 w' => ∃ (x8_1 : Int), v8 = .int .i64 x8_1 ∧ Aside0 (slices_Index_int_int.l0 kq l0 a1 (l0.length : Int) x8_1 = some r) ∧ Aside0 (kq ≤ k) ∧ Drawn0 w w')
 case atStart => exact ⟨(0), (by first | rfl | (simp; done) | (simp [*]; done)), H', ⟨Nat.le_refl _⟩, by repeat (first | exact Drawn0.refl _ | apply Drawn0.step)⟩
 case round =>
  clear H'
  try clear p2
  obtain ⟨x8_1, rfl, HA, HK1, ⟨m1, rfl⟩⟩ := hrel
  cases gk with
  | zero => exact absurd HA.out (by simp [slices_Index_int_int.l0])
  | succ k1 =>
   have H := HA.out
   clear HA
   simp only [slices_Index_int_int.l0] at H
   by_cases c3 : x8_1 < (l0.length : Int)
   ·rw [if_pos c3] at H
    have c3b0 : decide (x8_1 < (l0.length : Int)) = true := decide_eq_true c3
    clear c3
    by_cases c4 : 0 ≤ x8_1
    ·rw [if_pos c4] at H
     have c4b0 : decide (0 ≤ x8_1) = true := decide_eq_true c4
     clear c4
     by_cases c5 : x8_1 < (l0.length : Int)
     ·rw [if_pos c5] at H
      have c5b0 : decide (x8_1 < (l0.length : Int)) = true := decide_eq_true c5
      clear c5
      by_cases c6 : a1 = (rd l0 x8_1)
      ·rw [if_pos c6] at H
       have c6b0 : (a1 == (rd l0 x8_1)) = true := beq_iff_eq.mpr c6
       have c6b1 : (a1 != (rd l0 x8_1)) = false := bne_eq_false_iff_eq.mpr c6
       clear c6
       obtain rfl := Option.some.inj H
       have p736 : 0 ≤ (x8_1 : Int) := of_decide_eq_true (by first | (with_reducible assumption) | assumption)
       have q736 : x8_1 < (l0.length : Int) := of_decide_eq_true (by first | (with_reducible assumption) | assumption)
       obtain ⟨ad736, e736, hx736_0⟩ := Kd.at_int HR0.out x8_1 p736 q736
       cases e736
       replace p736 := eq_true p736
       replace q736 := eq_true q736
       go_wp2
       go_ret
       exact ⟨by first | rfl | (simp; done) | (simp [*]; done), by repeat (first | exact Drawn0.refl _ | apply Drawn0.step)⟩
      ·rw [if_neg c6] at H
       have c6b0 : (a1 == (rd l0 x8_1)) = false := beq_eq_false_iff_ne.mpr c6
       have c6b1 : (a1 != (rd l0 x8_1)) = true := bne_iff_ne.mpr c6
       have H' := Aside0.mk H
       clear H
       have p736 : 0 ≤ (x8_1 : Int) := of_decide_eq_true (by first | (with_reducible assumption) | assumption)
       have q736 : x8_1 < (l0.length : Int) := of_decide_eq_true (by first | (with_reducible assumption) | assumption)
       obtain ⟨ad736, e736, hx736_0⟩ := Kd.at_int HR0.out x8_1 p736 q736
       cases e736
       replace p736 := eq_true p736
       replace q736 := eq_true q736
       go_wp2
       go_roundg k1
       case measure => have := HK1.out; omega
       case rel => exact ⟨(wrap64 (x8_1 + 1)), (by first | rfl | (simp; done) | (simp [*]; done)), H', ⟨by have := HK1.out; omega⟩, by repeat (first | exact Drawn0.refl _ | apply Drawn0.step)⟩
     ·rw [if_neg c5] at H
      exact absurd H (by simp)
    ·rw [if_neg c4] at H
     exact absurd H (by simp)
   ·rw [if_neg c3] at H
    have c3b0 : decide (x8_1 < (l0.length : Int)) = false := decide_eq_false c3
    clear c3
    obtain rfl := Option.some.inj H
    go_wp2
    go_ret
    exact ⟨by first | rfl | (simp; done) | (simp [*]; done), by repeat (first | exact Drawn0.refl _ | apply Drawn0.step)⟩

end Go.Proofs.Ythbkjaieenochaa.P
