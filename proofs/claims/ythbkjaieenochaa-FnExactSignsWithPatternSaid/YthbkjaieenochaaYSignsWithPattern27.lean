/- Texts of one chain, in build order. -/
import Derived.Test.YthbkjaieenochaaYSignsWithPattern26
namespace Go.Proofs.Ythbkjaieenochaa
open Go.RowKit Go.Proofs.Ythbkjaieenochaa.P Go.Proofs.Ythbkjaieenochaa.LN Go.Proofs.YthbkjaieenochaaW.PrintWords Go.Proofs.YthbkjaieenochaaW.PrintLast Go.Proofs.YthbkjaieenochaaW.PrintMore
set_option linter.unusedVariables false
set_option linter.unusedSimpArgs false

/-- A table's number at a place. -/
def r2 (l : List (List Int)) (i j : Int) : Int := rd (rd_L1 l i) j
/-- Two tables of edges of n rows, two of them drawn at each point. -/
structure LpOk (n : Nat) (a d : List (List Int)) : Prop where
 n6 : n ≤ 6
 la : a.length = n
 ra : ∀ i : Nat, i < n → (a.getD i []).length = n + 1
 ld : d.length = n + 1
 rd' : ∀ i : Nat, i < n + 1 → (d.getD i []).length = n
 good : LN.Good (r2 a) (r2 d) (n : Int)
theorem rdL_len {a : List (List Int)} {n m : Nat} (h : ∀ i : Nat, i < n → (a.getD i []).length = m) {i : Int} (h0 : 0 ≤ i) (h1 : i < n) : (rd_L1 a i).length = m := by
 unfold rd_L1
 exact h i.toNat (by omega)
theorem w64s {x : Int} (h0 : -1000 ≤ x) (h1 : x ≤ 1000) : wrap64 x = x := by unfold wrap64; omega
theorem drawn_f {n : Nat} {a d : List (List Int)} (h : LpOk n a d) {i j e : Int} (hi : ing n i j = true) (h0 : 0 ≤ e) (h1 : e ≤ 3) (a0 : Int) : impl_Loops_drawn.f a0 a d i j e = some (drw (r2 a) (r2 d) i j e) := by
 obtain ⟨g1, g2, g3, g4⟩ := ing_iff.1 hi
 have h6 := h.n6
 have k1 := rdL_len h.rd' (i := i) g1 (by omega)
 have k2 := rdL_len h.ra (i := i) g1 (by omega)
 have k3 := rdL_len h.rd' (i := i + 1) (by omega) (by omega)
 unfold impl_Loops_drawn.f drw r2
 rw [w64s (x := i + 1) (by omega) (by omega), w64s (x := j + 1) (by omega) (by omega), h.la, h.ld, k1, k2, k3]
 rcases four h0 h1 with rfl | rfl | rfl | rfl
 ·rw [if_pos rfl, if_pos g1, if_pos (by omega), if_pos g3, if_pos (by omega), if_pos rfl]
 ·rw [if_neg (by decide), if_pos rfl, if_pos g1, if_pos (by omega), if_pos (by omega), if_pos (by omega), if_neg (by decide), if_pos rfl]
 ·rw [if_neg (by decide), if_neg (by decide), if_pos rfl, if_pos (by omega), if_pos (by omega), if_pos g3, if_pos (by omega), if_neg (by decide), if_neg (by decide), if_pos rfl]
 ·rw [if_neg (by decide), if_neg (by decide), if_neg (by decide), if_pos g1, if_pos (by omega), if_pos g3, if_pos (by omega), if_neg (by decide), if_neg (by decide), if_neg (by decide)]
/-- Before the side at which the line goes out no side serves. -/
theorem exq_lt {a d : Int → Int → Int} {i j s e : Int} (h0 : 0 ≤ e) (h : e < exq a d i j s) : e = s ∨ (e ≠ s ∧ drw a d i j e = false) := by
 by_cases he : e = s
 ·exact .inl he
 ·refine .inr ⟨he, ?_⟩
  cases hd : drw a d i j e with
  | false => rfl
  | true =>
   exfalso
   unfold exq at h
   repeat' split at h
   ·omega
   ·rename_i k1 _
    obtain rfl : e = 0 := by omega
    exact k1 ⟨fun h => he h.symm, hd⟩
   ·rename_i k1 k2 k3
    rcases (by omega : e = 0 ∨ e = 1) with rfl | rfl
    ·exact k1 ⟨fun h => he h.symm, hd⟩
    ·exact k2 ⟨fun h => he h.symm, hd⟩
   ·rename_i k1 k2 k3
    rcases (by omega : e = 0 ∨ e = 1 ∨ e = 2) with rfl | rfl | rfl
    ·exact k1 ⟨fun h => he h.symm, hd⟩
    ·exact k2 ⟨fun h => he h.symm, hd⟩
    ·exact k3 ⟨fun h => he h.symm, hd⟩
theorem rdN (l : List Int) (i : Nat) (h : i < l.length) : rd l (i : Int) = l[i] := by simp [rd, List.getD_eq_getElem?_getD, h]
theorem eqN_l0 (a b : List Int) (hab : a.length = b.length) (hl : a.length ≤ 1000) : ∀ (k i : Nat), a.length - i < k → i ≤ a.length → slices_Equal_int_int.l0 k a b (a.length : Int) (i : Int) = some (decide (a.drop i = b.drop i)) := by
 intro k
 induction k with
 | zero => intro i h; omega
 | succ k ih =>
  intro i hk hi
  rw [slices_Equal_int_int.l0]
  by_cases hlt : i < a.length
  ·rw [if_pos (by omega), if_pos (by omega), if_pos (by omega), if_pos (by omega), rdN a i hlt, rdN b i (by omega), List.drop_eq_getElem_cons hlt, List.drop_eq_getElem_cons (show i < b.length by omega)]
   by_cases he : a[i] = b[i]
   ·rw [if_pos he, show wrap64 ((i : Int) + 1) = ((i + 1 : Nat) : Int) by unfold wrap64; omega, ih (i + 1) (by omega) (by omega)]
    congr 1
    rw [decide_eq_decide, List.cons.injEq]
    exact ⟨fun h => ⟨he, h⟩, fun h => h.2⟩
   ·rw [if_neg he, decide_eq_false (fun h => he (List.cons.inj h).1)]
  ·rw [if_neg (by omega), List.drop_eq_nil_of_le (by omega), List.drop_eq_nil_of_le (by omega)]
   rfl
theorem eqN (a b : List Int) (hl : a.length ≤ 1000) : slices_Equal_int_int.f 1001 a b = some (decide (a = b)) := by
 unfold slices_Equal_int_int.f
 by_cases h : (a.length : Int) = (b.length : Int)
 ·rw [if_pos h]
  have := eqN_l0 a b (by omega) hl 1001 0 (by omega) (by omega)
  simpa using this
 ·rw [if_neg h, decide_eq_false (fun e => h (by rw [e]))]
/-- The function value that asks whether an end is the one that is sought. -/
theorem follow_1.calls (x at_ : List Int) (A : Option Addr) (c g h : Nat) (W : World) (hx : Kd.C (Kd.int .i64) W A x.length x) (hc : x.length ≤ c) (hl : x.length ≤ 1000) (hg : W.cell? ⟨g, 0, none⟩ = some (.slice (some ⟨h, 0, none⟩) at_.length at_.length)) (hh : Kd.C (Kd.int .i64) W (some ⟨h, 0, none⟩) at_.length at_) :
  Gives Try.prog 89 (#[.slice A x.length c] ++ #[.pointer (some ⟨g, 0, none⟩)]) W (.bool (decide (x = at_))) := by
 unfold Gives
 have HE := Aside0.mk (fun W' => slices_Equal_int_int.calls 1001 A c x (some ⟨h, 0, none⟩) at_.length at_ (decide (x = at_)) W')
 have HX := Aside0.mk hx
 have HH := Aside0.mk hh
 have HQ := Aside0.mk (eqN x at_ hl)
 clear hx hh
 go_enter Try.func89, Try.ntmps89
 go_wp2_with (go_at_call 66; refine (HE.out _ HX.out hc HH.out (Nat.le_refl _) HQ.out).mono ?_; rintro e w1 ⟨rfl, hd⟩; have HB := Aside0.mk hd.below; clear hd)
 go_ret
 exact ⟨rfl, HB.out⟩
end Go.Proofs.Ythbkjaieenochaa

namespace Go.Proofs.Ythbkjaieenochaa
open Go.RowKit Go.Proofs.Ythbkjaieenochaa.P Go.Proofs.Ythbkjaieenochaa.LN Go.Proofs.YthbkjaieenochaaW.PrintWords Go.Proofs.YthbkjaieenochaaW.PrintLast Go.Proofs.YthbkjaieenochaaW.PrintMore
set_option linter.unusedVariables false
set_option linter.unusedSimpArgs false

theorem info_rowsN : (Try.prog.info? 28).map (fun i => (i.zero, i.size, i.bytes)) = some (some (.slice none 0 0), 1, 24) := by kernel_rfl
theorem S_emptyN {α : Type} {d : Kd α} {e : Nat} {W : World} {B g : Nat} {ok : Nat → Prop} (h : W.heap[g]? = some (.cells #[] e (0, 0))) (hB : B ≤ g) (hok : ok g) : Kd.S d e W B ok (.slice (some ⟨g, 0, none⟩) 0 0) [] := by
 refine ⟨fun _ => 0, fun k hk => ?_, [], ⟨by simp, .inr ⟨g, 0, #[], rfl, hB, h, Nat.le_refl _, by unfold maxLen; omega, by simp, by simp⟩⟩, Reps.none _ _⟩
 have : g = k := by simpa [Value.ownBlock] using hk
 exact this ▸ hok
/-- The index of an end in the list of ends, or -1. -/
def endIx (E : List (List Int)) (at_ : List Int) : Int := idxOf (fun e => decide (e = at_)) E
/-- What comes back behind a line. -/
def FoRet (w : World) (pts : List (List Int)) (r2 : Int) (e : Ending) (w' : World) : Prop := ∃ v0_ : Value, e = .returned (.tuple #[v0_, .int .i64 r2]) ∧ Kd.S (Kd.slice 3 (Kd.int .i64)) 28 w' w.heap.size (fun _ => True) v0_ pts ∧ Below w.heap.size w w'
/-- A point has been appended: the rest stands. -/
theorem fo_app {w wr w2 w1 : World} {v : Value} {P : List (List Int)} {o0 o1 : Obj} (hS : Kd.S (Kd.slice 3 (Kd.int .i64)) 28 wr w.heap.size (fun k => k ≠ w.heap.size ∧ k ≠ w.heap.size + 1 + 1) v P) (h0 : wr.heap[w.heap.size]? = some o0) (h1 : wr.heap[w.heap.size + 1 + 1]? = some o1) (hb : Below wr.heap.size wr w2) (hg : w2.grownBy w1 v.ownBlock) :
  w1.heap[w.heap.size]? = some o0 ∧ w1.heap[w.heap.size + 1 + 1]? = some o1 := by
 have hv := (Kd.S_R hS).1
 have l0 := blk_lt h0
 have l1 := blk_lt h1
 have hz := hb.size
 exact ⟨(hg.block _ (by omega) (fun e => (hv _ e.symm).1 rfl)).trans (blk_below h0 hb), (hg.block _ (by omega) (fun e => (hv _ e.symm).2 rfl)).trans (blk_below h1 hb)⟩
theorem wy_out {a d : Int → Int → Int} {n : Int} {f : St} {k : Nat} {i j s e : Int} {q : List (List Int) × Int × Bool} (he : e = exq a d i j s) (hn : ¬ ing n (mi i e) (mj j e) = true) (h : wy a d n f (k + 1) (i, j, s) = some q) : q = ([[i, j]], e, false) := by
 subst he
 rw [wy, if_neg (by exact hn)] at h
 exact (Option.some.inj h).symm
theorem wy_in {a d : Int → Int → Int} {n : Int} {f : St} {k : Nat} {i j s e : Int} {q : List (List Int) × Int × Bool} (he : e = exq a d i j s) (hn : ing n (mi i e) (mj j e) = true) (h : wy a d n f (k + 1) (i, j, s) = some q) :
  ((mi i e, mj j e, op e) = f → q = ([[i, j]], e, true)) ∧ ((mi i e, mj j e, op e) ≠ f → ∃ q', wy a d n f k (mi i e, mj j e, op e) = some q' ∧ q = ([i, j] :: q'.1, q'.2)) := by
 subst he
 rw [wy, if_pos (by exact hn)] at h
 constructor
 ·intro e1
  rw [if_pos (by exact e1)] at h
  exact (Option.some.inj h).symm
 ·intro e1
  rw [if_neg (by exact e1)] at h
  obtain ⟨q', h1, h2⟩ := Option.map_eq_some_iff.1 h
  exact ⟨q', h1, h2.symm⟩
/-- What was gone before, the point, and what goes on. -/
theorem fo_last {P pts : List (List Int)} {q : List (List Int) × Int × Bool} {i j e ex : Int} {b cl : Bool} (hq : q = ([[i, j]], e, b)) (hp : (P ++ q.1, q.2) = (pts, ex, cl)) : pts = P ++ [[i, j]] ∧ ex = e ∧ cl = b ∧ pts.getLast? = some [i, j] := by
 subst hq
 simp only [Prod.mk.injEq] at hp
 obtain ⟨h1, h2, h3⟩ := hp
 refine ⟨h1.symm, h2.symm, h3.symm, ?_⟩
 rw [← h1]
 simp
theorem lit3_C (a b c : Int) (W : World) : Kd.C (Kd.int .i64) (W.alloc (.cells #[.int .i64 a, .int .i64 b, .int .i64 c] 3)) (some ⟨W.heap.size, 0, none⟩) ([a, b, c] : List Int).length [a, b, c] := (Kd.R_reads' (intBlk_R (base := 0) (ok := fun _ => True) (show intBlk _ _ [a, b, c] from blk_new W _) (Nat.zero_le _) trivial (by simp))).2.2
theorem blk3_C {a b c : Int} {W : World} {g : Nat} (h : W.heap[g]? = some (.cells #[.int .i64 a, .int .i64 b, .int .i64 c] 3 (0, 0))) : Kd.C (Kd.int .i64) W (some ⟨g, 0, none⟩) ([a, b, c] : List Int).length [a, b, c] := (Kd.R_reads' (intBlk_R (base := 0) (ok := fun _ => True) (show intBlk W g [a, b, c] from h) (Nat.zero_le _) trivial (by simp))).2.2
theorem fo_blk {W : World} {g : Nat} {e a b a' b' : Int} (ha : a = a') (hb : b = b') (h : W.heap[g]? = some (.cells #[.int .i64 e, .int .i64 a, .int .i64 b] 3 (0, 0))) : W.heap[g]? = some (.cells #[.int .i64 e, .int .i64 a', .int .i64 b'] 3 (0, 0)) := by subst ha hb; exact h
theorem blk_drewN' {w : World} {g : Nat} {o : Obj} (h : w.heap[g]? = some o) : w.drew.heap[g]? = some o := h
theorem fo_int {a b : Int} (h : a = b) : Value.int .i64 a = .int .i64 b := by rw [h]
set_option maxHeartbeats 4000000 in
set_option maxRecDepth 100000 in
theorem follow_walk (n : Nat) (la ld : List (List Int)) (hok : LpOk n la ld) (A1 : Option Addr) (c1 : Nat) (A2 : Option Addr) (c2 : Nat) (x1 x2 x3 : Int) (hx : okS (r2 la) (r2 ld) n (x1, x2, x3)) (E : List (List Int)) (ke : Nat) (hE : impl_ends.f ke (n : Int) = some E) (hEl : ∀ x ∈ E, x.length ≤ 1000) (w : World)
  (hC1 : Kd.C (Kd.slice 3 (Kd.int .i64)) w A1 la.length la) (hc1 : la.length ≤ c1) (hC2 : Kd.C (Kd.slice 3 (Kd.int .i64)) w A2 ld.length ld) (hc2 : ld.length ≤ c2)
  (pts : List (List Int)) (ex : Int) (cl : Bool) (h : wy (r2 la) (r2 ld) n (x1, x2, x3) 144 (x1, x2, x3) = some (pts, ex, cl)) (res : Int) (hres : ∀ i j : Int, pts.getLast? = some [i, j] → res = if cl = true then -1 else endIx E [ex, i, j]) :
  Calls Try.prog 58 #[.agg #[.int .i64 n, .slice A1 la.length c1, .slice A2 ld.length c2], .int .i64 x1, .int .i64 x2, .int .i64 x3] w (FoRet w pts res) := by
 obtain ⟨W1, hW1⟩ : ∃ W1, W1 = (((w.alloc (.cells #[.int .i64 n, .slice A1 la.length c1, .slice A2 ld.length c2] 50)).alloc (.cells #[] 28)).alloc (.cells #[.int .i64 x1, .int .i64 x2, .int .i64 x3] 3)) := ⟨_, rfl⟩
 have hB1 : Below w.heap.size w W1 := by rw [hW1]; exact below_alloc (below_alloc (below_alloc (Below.refl _ _) _) _) _
 have hbox : W1.heap[w.heap.size]? = some (.cells #[.int .i64 n, .slice A1 la.length c1, .slice A2 ld.length c2] 50 (0, 0)) := by rw [hW1]; exact blk_alloc (blk_alloc (blk_newA rfl) _) _
 have hemp : W1.heap[w.heap.size + 1]? = some (.cells #[] 28 (0, 0)) := by rw [hW1]; exact blk_alloc (blk_newA (by simp)) _
 have hfrom : W1.heap[w.heap.size + 1 + 1]? = some (.cells #[.int .i64 x1, .int .i64 x2, .int .i64 x3] 3 (0, 0)) := by rw [hW1]; exact blk_newA (by simp)
 have hsz : W1.heap.size = w.heap.size + 1 + 1 + 1 := by rw [hW1]; simp
 have HR := Aside0.mk h
 have HW1 := Aside0.mk hW1
 have HB := Aside0.mk hB1
 have HBX := Aside0.mk hbox
 have HFR := Aside0.mk hfrom
 have HS := Aside0.mk (show Kd.S (Kd.slice 3 (Kd.int .i64)) 28 W1 w.heap.size (fun k => k ≠ w.heap.size ∧ k ≠ w.heap.size + 1 + 1) (.slice (some ⟨w.heap.size + 1, 0, none⟩) 0 0) [] from S_emptyN hemp (by omega) ⟨by omega, by omega⟩)
 have HX := Aside0.mk hx
 have HOK := Aside0.mk hok
 have HRES := Aside0.mk hres
 have HSZ := Aside0.mk hsz
 clear h hW1 hB1 hbox hfrom hemp hx hok hres hsz
 go_enter Try.func58, Try.ntmps58
 go_wp2
 rw [← HW1.out]
 go_loopg [1, 2, 3, 10] 144 (fun kq v1 v2 v3 v10 wr => ∃ (i j s : Int) (P : List (List Int)) (q : List (List Int) × Int × Bool), v1 = .int .i64 i ∧ v2 = .int .i64 j ∧ v3 = .int .i64 s ∧ Aside0 (okS (r2 la) (r2 ld) n (i, j, s)) ∧ Aside0 (wy (r2 la) (r2 ld) n (x1, x2, x3) kq (i, j, s) = some q) ∧ Aside0 ((P ++ q.1, q.2) = (pts, ex, cl)) ∧ Aside0 (P.length + kq ≤ 144) ∧ Aside0 (Kd.S (Kd.slice 3 (Kd.int .i64)) 28 wr w.heap.size (fun k => k ≠ w.heap.size ∧ k ≠ w.heap.size + 1 + 1) v10 P) ∧ Aside0 (wr.heap[w.heap.size]? = some (.cells #[.int .i64 n, .slice A1 la.length c1, .slice A2 ld.length c2] 50 (0, 0))) ∧ Aside0 (wr.heap[w.heap.size + 1 + 1]? = some (.cells #[.int .i64 x1, .int .i64 x2, .int .i64 x3] 3 (0, 0))) ∧ Aside0 (Below w.heap.size w wr))
 case atStart => exact ⟨x1, x2, x3, [], _, rfl, rfl, rfl, HX, HR, ⟨rfl⟩, ⟨by simp⟩, HS, HBX, HFR, HB⟩
 case round =>
  clear HX HR HS HBX HFR HB
  obtain ⟨i, j, s, P, q, rfl, rfl, rfl, HX, HR, HP, HK, HS, HBX, HFR, HB⟩ := hrel
  cases gk with
  | zero => exact absurd HR.out (by simp [wy])
  | succ k3 =>
  obtain ⟨x0, y0, z0⟩ := HX.out
  obtain ⟨g1, g2, g3, g4⟩ := ing_iff.1 x0
  obtain ⟨z1, z2⟩ := z0
  simp only at g1 g2 g3 g4 y0 z1
  have n6 := HOK.out.n6
  have i5 : i ≤ 5 := by omega
  have j5 : j ≤ 5 := by omega
  obtain ⟨Av, nv, cv, rfl⟩ : ∃ A n c, u10 = .slice A n c := by
   obtain ⟨A, c, rfl⟩ := Kd.R_slice (Kd.S_R HS.out)
   exact ⟨A, _, c, rfl⟩
  have HPL := Aside0.mk (show P.length ≤ 1000 by have := HK.out; omega)
  clear x0 z2 n6
  go_wp2_with (first
   | ((with_reducible refine gate_dst (N := 22) rfl ?_); refine Kd.R_lit (Kd.int .i64) _ 3 ?hg (N := 22) ?hd (xs := ([i, j] : List Int)) (inner := [.int .i64 i, .int .i64 j]) (ok := fun _ => True) (okp := fun _ => True) ?hr ?hp (fun _ hk => hk) trivial (Below.refl _ _) (Nat.le_refl _) (by simp) ?_; (case hd => rfl); (case hg => rfl); (case hr => first | (go_simp; done) | (go_simp; rfl)); (case hp => exact (Reps.one (show Kd.M (Kd.int .i64) _ _ _ i [.int .i64 i] from rfl) (Reps.one (show Kd.M (Kd.int .i64) _ _ _ j [.int .i64 j] from rfl) (Reps.none _ _)))); intro v2 w2 ho2 hb2 hg_ hnew_; clear hg_ hnew_; obtain ⟨A2p, c2p, rfl⟩ := Kd.R_slice ho2; have HO2 := Aside0.mk (Kd.R_mono (ok' := fun k => wr.heap.size ≤ k) (Kd.R_lower (Kd.R_bound ho2) HB.out.size) (fun k hk => hk.2.1)); have HB2 := Aside0.mk hb2; have HBW2 := Aside0.mk (below_step HB.out hb2); clear ho2 hb2)
   | ((with_reducible refine gate_builtin (b := .append) (xs := #[.tmp 19, .tmp 23]) rfl ?_); at_builtin; refine Kd.S_append (Kd.slice 3 (Kd.int .i64)) (w0 := w) w.heap.size rfl (.tmp 19) (.tmp 23) 22 28 (.slice none 0 0) 24 rfl Try.underlying22 info_rowsN rfl (by decide) (by omega) (.slice Av nv cv) P [i, j] [.slice A2p ([i, j] : List Int).length c2p] (fun k => k ≠ w.heap.size ∧ k ≠ w.heap.size + 1 + 1) (fun k => wr.heap.size ≤ k) rfl rfl (Kd.M_row HO2.out) ?aQ ?aF ?aO HBW2.out HBW2.out.size ?aL ?_; (case aQ => exact fun k hk => by have h0 := blk_lt HBX.out; have h1 := blk_lt HFR.out; exact ⟨⟨by omega, by omega⟩, fun e => by have := Kd.S_lt HS.out k e.symm; omega⟩); (case aF => exact fun k hk => by have h0 := blk_lt HBX.out; have h1 := blk_lt HFR.out; have h2 := HB2.out.size; exact ⟨by omega, by omega⟩); (case aO => exact Kd.S_mono (Kd.S_below (Kd.S_bound HS.out) HB2.out) (fun k hk => ⟨hk.1, fun e => by have := hk.2.2.1; omega⟩)); (case aL => have := HPL.out; omega); intro v4 w4 ho hb hg hat; obtain ⟨A4, c4, rfl⟩ := Kd.R_slice (Kd.S_R ho); obtain ⟨hb0, hb1⟩ := fo_app HS.out HBX.out HFR.out HB2.out hg; have HS4 := Aside0.mk ho; have HBX4 := Aside0.mk hb0; have HFR4 := Aside0.mk hb1; have HB4 := Aside0.mk hb; clear ho hb hg hat hb0 hb1))
  obtain ⟨ee, hee⟩ : ∃ e, e = exq (r2 la) (r2 ld) i j s := ⟨_, rfl⟩
  obtain ⟨he0, he3⟩ := exq_4 (r2 la) (r2 ld) i j s
  rw [← hee] at he0 he3
  have HEE := Aside0.mk hee
  have HDR := Aside0.mk (fun (e : Int) (h0 : 0 ≤ e) (h1 : e ≤ 3) (W : World) (hb : Below w.heap.size w W) => impl_Loops_drawn.calls n A1 c1 la A2 c2 ld i j e (drw (r2 la) (r2 ld) i j e) W (Kd.C_below hC1 hb) hc1 (Kd.C_below hC2 hb) hc2 (drawn_f HOK.out HX.out.1 h0 h1 n))
  clear hee
  go_loopg [12] 4 (fun kq v12 wr2 => ∃ e : Int, v12 = .int .i64 e ∧ 0 ≤ e ∧ e ≤ ee ∧ Aside0 ((3 - e).toNat < kq) ∧ Aside0 (Below w4.heap.size w4 wr2))
  case atStart => exact ⟨0, rfl, by omega, by omega, ⟨by decide⟩, ⟨Below.refl _ _⟩⟩
  case round =>
   obtain ⟨e, rfl, h0, h1, HM, HBL⟩ := hrel
   obtain ⟨k5, rfl⟩ : ∃ m, gk = m + 1 := ⟨gk - 1, by have := HM.out; omega⟩
   have hx0 := blk_cell (blk_below HBX4.out HBL.out) 0
   have hx1 := blk_cell (blk_below HBX4.out HBL.out) 1
   have hx2 := blk_cell (blk_below HBX4.out HBL.out) 2
   have HBE := Aside0.mk (below_step HB4.out HBL.out)
   by_cases hlt : e < ee
   ·have hcase := exq_lt h0 (HEE.out ▸ hlt)
    have hE1 : e + 1 ≤ ee := by omega
    have hE3 : e ≤ 2 := by omega
    by_cases hes : e = s
    ·have hesd : (e == s) = true := by rw [beq_iff_eq]; exact hes
     clear hcase hes hlt
     go_wp2
     go_roundg k5
     case measure => omega
     case rel => exact ⟨e + 1, by go_num, by omega, hE1, ⟨by have := HM.out; omega⟩, HBL⟩
    ·have hesd : (e == s) = false := by rw [beq_eq_false_iff_ne]; exact hes
     have HD := Aside0.mk (HDR.out e h0 (by omega))
     rw [(hcase.resolve_left hes).2] at HD
     clear hcase hes hlt
     go_wp2_with (go_at_call 57; refine (HD.out _ HBE.out).mono ?_; rintro e_ w5 ⟨rfl, hb5⟩; have HB5 := Aside0.mk hb5; clear hb5)
     go_roundg k5
     case measure => omega
     case rel => exact ⟨e + 1, by go_num, by omega, hE1, ⟨by have := HM.out; omega⟩, ⟨below_step HBL.out HB5.out⟩⟩
   ·obtain rfl : e = ee := by omega
    obtain ⟨k1, k2, _⟩ := exq_ok HOK.out.good HX.out.1 HX.out.2.1 HX.out.2.2.1 HX.out.2.2.2
    rw [← HEE.out] at k1 k2
    have hesd : (e == s) = false := by rw [beq_eq_false_iff_ne]; exact k1
    have HD := Aside0.mk (HDR.out e h0 (by omega))
    rw [k2] at HD
    clear k1 k2 hlt h1
    go_wp2_with (go_at_call 57; refine (HD.out _ HBE.out).mono ?_; rintro e_ w5 ⟨rfl, hb5⟩; have HB5 := Aside0.mk hb5; clear hb5)
    have HB6 := Aside0.mk (below_step HBL.out HB5.out)
    go_upto_region 7 with (fail)
    go_cut [1, 2] (fun v1 v2 wc => v1 = .int .i64 (mi i e) ∧ v2 = .int .i64 (mj j e) ∧ Aside0 (Below w4.heap.size w4 wc))
    case first =>
     rcases four he0 he3 with rfl | rfl | rfl | rfl
     ·go_region
      all_goals
       go_wp2
       go_meet
       case rel => exact ⟨fo_int (by simp [mi] <;> omega), fo_int (by simp [mj] <;> omega), ⟨by repeat (first | with_reducible exact HB6.out | with_reducible refine below_alloc ?_ _ | with_reducible refine below_drew ?_)⟩⟩
     ·go_region
      all_goals
       go_wp2
       go_meet
       case rel => exact ⟨fo_int (by simp [mi] <;> omega), fo_int (by simp [mj] <;> omega), ⟨by repeat (first | with_reducible exact HB6.out | with_reducible refine below_alloc ?_ _ | with_reducible refine below_drew ?_)⟩⟩
     ·go_region
      all_goals
       go_wp2
       go_meet
       case rel => exact ⟨fo_int (by simp [mi] <;> omega), fo_int (by simp [mj] <;> omega), ⟨by repeat (first | with_reducible exact HB6.out | with_reducible refine below_alloc ?_ _ | with_reducible refine below_drew ?_)⟩⟩
     ·go_region
      all_goals
       go_wp2
       go_meet
       case rel => exact ⟨fo_int (by simp [mi] <;> omega), fo_int (by simp [mj] <;> omega), ⟨by repeat (first | with_reducible exact HB6.out | with_reducible refine below_alloc ?_ _ | with_reducible refine below_drew ?_)⟩⟩
    case rest =>
     clear HB6 HB5 HBL HBE HM
     obtain ⟨rfl, rfl, HBL⟩ := hcut
     obtain ⟨I, hI⟩ : ∃ I, I = mi i e := ⟨_, rfl⟩
     obtain ⟨J, hJ⟩ : ∃ J, J = mj j e := ⟨_, rfl⟩
     rw [← hI, ← hJ]
     have hIb : -1 ≤ I ∧ I ≤ 6 := by rw [hI]; unfold mi; split; omega; split <;> omega
     have hJb : -1 ≤ J ∧ J ≤ 6 := by rw [hJ]; unfold mj; split; omega; split <;> omega
     obtain ⟨hI0, hI6⟩ := hIb
     obtain ⟨hJ0, hJ6⟩ := hJb
     have HI := Aside0.mk hI
     have HJ := Aside0.mk hJ
     have HWT := Aside0.mk (fun (x : Int) (b : Bool) (hb : inB x 0 ((n : Int) - 1) = b) (W : World) => impl_within.calls x 0 ((n : Int) - 1) b W (by rw [← hb]; rfl))
     have hx0 := blk_cell (blk_below HBX4.out HBL.out) 0
     have hn0 : (1 : Int) ≤ n := by omega
     have hn6 : (n : Int) ≤ 6 := by have := HOK.out.n6; omega
     clear hI hJ
     have HI2 := Aside0.mk (show I = mi i e from HI.out)
     clear HI2
     go_upto_region 7 with (fail)
     go_cut [63] (fun v63 wc => v63 = .bool (!(ing n I J)) ∧ Aside0 (Below w4.heap.size w4 wc))
     case first =>
      have hin2 : inB I 0 ((n : Int) - 1) = false ∨ (inB I 0 ((n : Int) - 1) = true ∧ inB J 0 ((n : Int) - 1) = false) ∨ (inB I 0 ((n : Int) - 1) = true ∧ inB J 0 ((n : Int) - 1) = true) := by
       cases h1 : inB I 0 ((n : Int) - 1) <;> cases h2 : inB J 0 ((n : Int) - 1) <;> simp
      have HEQ := Aside0.mk (show (!(ing n I J)) = !(inB I 0 ((n : Int) - 1) && inB J 0 ((n : Int) - 1)) from by
       congr 1
       rw [Bool.eq_iff_iff, ing_iff, Bool.and_eq_true, inB_iff, inB_iff]
       omega)
      rcases hin2 with hb1 | ⟨hb1, hb2⟩ | ⟨hb1, hb2⟩
      ·have HW1 := Aside0.mk (HWT.out I false hb1)
       rw [hb1] at HEQ
       clear hb1
       go_wp2_with (go_at_call 49; refine (HW1.out _).mono ?_; rintro e_ w6 ⟨rfl, hd⟩; have HB6 := Aside0.mk (below_step HBL.out hd.below); have hx0 := pw_cell_below hd.below hx0; clear hd)
       go_meet
       case rel => exact ⟨by rw [HEQ.out]; rfl, HB6⟩
      ·have HW1 := Aside0.mk (HWT.out I true hb1)
       have HW2 := Aside0.mk (HWT.out J false hb2)
       rw [hb1, hb2] at HEQ
       clear hb1 hb2
       go_wp2_with (first
        | (go_at_call 49; (with_reducible refine (HW1.out _).mono ?_); rintro e_ w6 ⟨rfl, hd⟩; have HB6 := Aside0.mk (below_step HBL.out hd.below); have hx0 := pw_cell_below hd.below hx0; clear hd)
        | (go_at_call 49; (with_reducible refine (HW2.out _).mono ?_); rintro e_ w7 ⟨rfl, hd⟩; have HB7 := Aside0.mk (below_step HB6.out hd.below); have hx0 := pw_cell_below hd.below hx0; clear hd))
       go_meet
       case rel => exact ⟨by rw [HEQ.out]; rfl, HB7⟩
      ·have HW1 := Aside0.mk (HWT.out I true hb1)
       have HW2 := Aside0.mk (HWT.out J true hb2)
       rw [hb1, hb2] at HEQ
       clear hb1 hb2
       go_wp2_with (first
        | (go_at_call 49; (with_reducible refine (HW1.out _).mono ?_); rintro e_ w6 ⟨rfl, hd⟩; have HB6 := Aside0.mk (below_step HBL.out hd.below); have hx0 := pw_cell_below hd.below hx0; clear hd)
        | (go_at_call 49; (with_reducible refine (HW2.out _).mono ?_); rintro e_ w7 ⟨rfl, hd⟩; have HB7 := Aside0.mk (below_step HB6.out hd.below); have hx0 := pw_cell_below hd.below hx0; clear hd))
       go_meet
       case rel => exact ⟨by rw [HEQ.out]; rfl, HB7⟩
     case rest =>
     clear HBL
     obtain ⟨rfl, HBL⟩ := hcut
     have hx0 := blk_cell (blk_below HBX4.out HBL.out) 0
     by_cases hin : ing n I J = true
     ·rw [show (!(ing n I J)) = false by rw [hin]; rfl]
      obtain ⟨hi1, hi2⟩ := wy_in HEE.out (by rw [← HI.out, ← HJ.out]; exact hin) HR.out
      rw [← HI.out, ← HJ.out] at hi1 hi2
      obtain ⟨b1, b2, b3, b4⟩ := ing_iff.1 hin
      have hst : LN.step (r2 la) (r2 ld) (i, j, s) = (I, J, op e) := by unfold LN.step; rw [← HEE.out, HI.out, HJ.out]
      have HOS := Aside0.mk (step_ok HOK.out.good HX.out (by rw [hst]; exact hin)).1
      rw [hst] at HOS
      have HFC := Aside0.mk (blk3_C (blk_below HFR4.out HBL.out))
      have h1n := fun W (hb : Below w4.heap.size w4 W) => blk_cell (blk_below HBX4.out hb) 0
      clear hin b1 b2 b3 b4 hst
      by_cases hcl : (I, J, op e) = (x1, x2, x3)
      ·have hq := hi1 hcl
       obtain ⟨r1, r2', r3, r4⟩ := fo_last hq HP.out
       have hl : ([I, J, op e] : List Int) = [x1, x2, x3] := by
        simp only [Prod.mk.injEq] at hcl
        rw [hcl.1, hcl.2.1, hcl.2.2]
       have HQ := Aside0.mk ((eqN [I, J, op e] [x1, x2, x3] (by simp)).trans (by rw [decide_eq_true hl]))
       have hres2 := HRES.out i j r4
       rw [r3, if_pos rfl] at hres2
       have HR4 := Aside0.mk r1
       have HR5 := Aside0.mk hres2
       clear hi1 hi2 hq r1 r2' r3 r4 hl hcl hres2
       go_wp2_with (first
        | (go_at_call 66; refine (slices_Equal_int_int.calls 1001 (some ⟨_, 0, none⟩) 3 [I, J, op e] (some ⟨w.heap.size + 1 + 1, 0, none⟩) 3 [x1, x2, x3] true _ (lit3_C _ _ _ _) (by simp) (Kd.C_below (blk3_C (blk_below HFR4.out HBL.out)) (below_alloc (Below.refl _ _) _)) (by simp) HQ.out).mono ?_; rintro e_ w8 ⟨rfl, hd⟩; have HB8 := Aside0.mk (below_step (below_alloc HBL.out _) hd.below); clear hd))
       go_ret2
       have h6 := HS4.out
       rw [show (P ++ [[i, j]]).length = P.length + 1 by simp] at h6
       refine ⟨.slice A4 (P.length + 1) c4, by rw [HR5.out]; rfl, ?_, below_step HB4.out HB8.out⟩
       rw [HR4.out]
       exact Kd.S_mono (Kd.S_below h6 HB8.out) (fun _ _ => trivial)
      ·obtain ⟨q', hq1, hq2⟩ := hi2 hcl
       have hl : ¬ ([I, J, op e] : List Int) = [x1, x2, x3] := by
        intro h_
        simp only [List.cons.injEq, and_true] at h_
        exact hcl (by rw [h_.1, h_.2.1, h_.2.2])
       have HQ := Aside0.mk ((eqN [I, J, op e] [x1, x2, x3] (by simp)).trans (by rw [decide_eq_false hl]))
       have HQ1 := Aside0.mk hq1
       have HP2 := Aside0.mk (show ((P ++ [[i, j]]) ++ q'.1, q'.2) = (pts, ex, cl) by have h_ := HP.out; rw [hq2] at h_; rw [List.append_assoc]; exact h_)
       clear hi1 hi2 hq1 hq2 hl hcl
       go_wp2_with (first
        | (go_at_call 66; refine (slices_Equal_int_int.calls 1001 (some ⟨_, 0, none⟩) 3 [I, J, op e] (some ⟨w.heap.size + 1 + 1, 0, none⟩) 3 [x1, x2, x3] false _ (lit3_C _ _ _ _) (by simp) (Kd.C_below (blk3_C (blk_below HFR4.out HBL.out)) (below_alloc (Below.refl _ _) _)) (by simp) HQ.out).mono ?_; rintro e_ w8 ⟨rfl, hd⟩; have HB8 := Aside0.mk (below_step (below_alloc HBL.out _) hd.below); clear hd))
       have h6 := HS4.out
       rw [show (P ++ [[i, j]]).length = P.length + 1 by simp] at h6
       have HS6 := Aside0.mk (Kd.S_below h6 HB8.out)
       clear h6
       go_roundg k3
       case measure => omega
       case rel => exact ⟨I, J, op e, P ++ [[i, j]], q', rfl, rfl, rfl, HOS, HQ1, HP2, ⟨by have := HK.out; simp only [List.length_append, List.length_cons, List.length_nil]; omega⟩, HS6, ⟨blk_below HBX4.out HB8.out⟩, ⟨blk_below HFR4.out HB8.out⟩, ⟨below_step HB4.out HB8.out⟩⟩
     ·have HNI := Aside0.mk hin
      rw [show (!(ing n I J)) = true by rw [(by simpa using hin : ing n I J = false)]; rfl]
      have HB6 := Aside0.mk HBL.out
      clear hin
      go_upto_region 9 with (fail)
      go_cut [13] (fun v13 wc => ∃ g h : Nat, v13 = .pointer (some ⟨g, 0, none⟩) ∧ Aside0 (wc.heap[g]? = some (.cells #[.slice (some ⟨h, 0, none⟩) 3 3] 28 (0, 0))) ∧ Aside0 (wc.heap[h]? = some (.cells #[.int .i64 e, .int .i64 i, .int .i64 j] 3 (0, 0))) ∧ Aside0 (Below w4.heap.size w4 wc))
      case first =>
       have hIe := HI.out
       have hJe := HJ.out
       rcases four he0 he3 with rfl | rfl | rfl | rfl
       ·simp only [mi, mj] at hIe hJe
        have HI2 := Aside0.mk hIe
        have HJ2 := Aside0.mk hJe
        clear hIe hJe
        go_region
        all_goals
         go_wp2
         go_meet
         case rel =>
          apply Exists.intro
          apply Exists.intro
          refine ⟨rfl, ⟨?_⟩, ⟨?_⟩, ⟨by repeat (first | with_reducible exact HB6.out | with_reducible refine below_alloc ?_ _ | with_reducible refine below_drew ?_)⟩⟩
          ·repeat (first | with_reducible exact blk_newA (by simp) | with_reducible refine blk_drewN' ?_ | with_reducible refine blk_alloc ?_ _)
          ·apply fo_blk
           rotate_left 2
           ·repeat (first | with_reducible exact blk_newA (by simp) | with_reducible refine blk_drewN' ?_ | with_reducible refine blk_alloc ?_ _)
           ·have := HI2.out; simp at this ⊢; try omega
           ·have := HJ2.out; simp at this ⊢; try omega
       ·simp only [mi, mj] at hIe hJe
        have HI2 := Aside0.mk hIe
        have HJ2 := Aside0.mk hJe
        clear hIe hJe
        go_region
        all_goals
         go_wp2
         go_meet
         case rel =>
          apply Exists.intro
          apply Exists.intro
          refine ⟨rfl, ⟨?_⟩, ⟨?_⟩, ⟨by repeat (first | with_reducible exact HB6.out | with_reducible refine below_alloc ?_ _ | with_reducible refine below_drew ?_)⟩⟩
          ·repeat (first | with_reducible exact blk_newA (by simp) | with_reducible refine blk_drewN' ?_ | with_reducible refine blk_alloc ?_ _)
          ·apply fo_blk
           rotate_left 2
           ·repeat (first | with_reducible exact blk_newA (by simp) | with_reducible refine blk_drewN' ?_ | with_reducible refine blk_alloc ?_ _)
           ·have := HI2.out; simp at this ⊢; try omega
           ·have := HJ2.out; simp at this ⊢; try omega
       ·simp only [mi, mj] at hIe hJe
        have HI2 := Aside0.mk hIe
        have HJ2 := Aside0.mk hJe
        clear hIe hJe
        go_region
        all_goals
         go_wp2
         go_meet
         case rel =>
          apply Exists.intro
          apply Exists.intro
          refine ⟨rfl, ⟨?_⟩, ⟨?_⟩, ⟨by repeat (first | with_reducible exact HB6.out | with_reducible refine below_alloc ?_ _ | with_reducible refine below_drew ?_)⟩⟩
          ·repeat (first | with_reducible exact blk_newA (by simp) | with_reducible refine blk_drewN' ?_ | with_reducible refine blk_alloc ?_ _)
          ·apply fo_blk
           rotate_left 2
           ·repeat (first | with_reducible exact blk_newA (by simp) | with_reducible refine blk_drewN' ?_ | with_reducible refine blk_alloc ?_ _)
           ·have := HI2.out; simp at this ⊢; try omega
           ·have := HJ2.out; simp at this ⊢; try omega
       ·simp only [mi, mj] at hIe hJe
        have HI2 := Aside0.mk hIe
        have HJ2 := Aside0.mk hJe
        clear hIe hJe
        go_region
        all_goals
         go_wp2
         go_meet
         case rel =>
          apply Exists.intro
          apply Exists.intro
          refine ⟨rfl, ⟨?_⟩, ⟨?_⟩, ⟨by repeat (first | with_reducible exact HB6.out | with_reducible refine below_alloc ?_ _ | with_reducible refine below_drew ?_)⟩⟩
          ·repeat (first | with_reducible exact blk_newA (by simp) | with_reducible refine blk_drewN' ?_ | with_reducible refine blk_alloc ?_ _)
          ·apply fo_blk
           rotate_left 2
           ·repeat (first | with_reducible exact blk_newA (by simp) | with_reducible refine blk_drewN' ?_ | with_reducible refine blk_alloc ?_ _)
           ·have := HI2.out; simp at this ⊢; try omega
           ·have := HJ2.out; simp at this ⊢; try omega
      case rest =>
       clear HB6
       obtain ⟨g, h, rfl, HG, HH, HB6⟩ := hcut
       obtain ⟨r1, r2', r3, r4⟩ := fo_last (wy_out HEE.out (by rw [← HI.out, ← HJ.out]; exact HNI.out) HR.out) HP.out
       have hres2 := HRES.out i j r4
       rw [r3, r2', if_neg (by decide)] at hres2
       have HR4 := Aside0.mk r1
       have HR5 := Aside0.mk hres2
       clear r1 r2' r3 r4 hres2
       have hx0 := blk_cell (blk_below HBX4.out HB6.out) 0
       have HEN := Aside0.mk (fun W => impl_ends.calls ke n E W hE)
       have eg : ∀ args w, (callFunc 89 args).run Try.prog w = .ok (.enter 89 args) w := enters_of Try.func89 (by kernel_rfl) rfl
       go_wp2_with (first
        | (go_at_call 87; refine (HEN.out _).mono ?_; rintro e_ w7 ⟨v7, rfl, hS7, hb7⟩; obtain ⟨A7, c7, rfl⟩ := Kd.R_slice (Kd.S_R hS7); have HS7 := Aside0.mk (Kd.S_reads' hS7); have HB7 := Aside0.mk hb7; clear hS7 hb7)
        | (go_at_call 88; refine (slices_IndexFunc_rows.calls 89 #[.pointer (some ⟨g, 0, none⟩)] (fun x => decide (x = [e, i, j])) A7 c7 E w7 eg ?hp HS7.out.2.2 HS7.out.2.1).mono ?_; (case hp => exact fun x A c W hx hb hC hc => follow_1.calls x [e, i, j] A c g h W hC hc (hEl x hx) (blk_cell (blk_below (blk_below HG.out HB7.out) hb) 0) (blk3_C (blk_below (blk_below HH.out HB7.out) hb))); rintro e_ w8 ⟨rfl, hb8⟩; have HB8 := Aside0.mk hb8; clear hb8))
       go_ret2
       have h5 : endIx E [e, i, j] = res := HR5.out.symm
       have h6 := HS4.out
       rw [show (P ++ [[i, j]]).length = P.length + 1 by simp] at h6
       refine ⟨.slice A4 (P.length + 1) c4, by rw [← h5]; rfl, ?_, ?_⟩
       ·rw [HR4.out]
        exact Kd.S_mono (Kd.S_below (Kd.S_below (Kd.S_below h6 HB6.out) HB7.out) HB8.out) (fun _ _ => trivial)
       ·exact below_step (below_step (below_step HB4.out HB6.out) HB7.out) HB8.out
end Go.Proofs.Ythbkjaieenochaa

namespace Go.Proofs.Ythbkjaieenochaa
open Go.RowKit Go.Proofs.Ythbkjaieenochaa.P Go.Proofs.Ythbkjaieenochaa.LN Go.Proofs.YthbkjaieenochaaW.PrintWords Go.Proofs.YthbkjaieenochaaW.PrintLast Go.Proofs.YthbkjaieenochaaW.PrintMore
set_option linter.unusedVariables false
set_option linter.unusedSimpArgs false
set_option maxRecDepth 100000

/-- Two tables of edges of n rows, two of them drawn at each point, as a test. -/
def lpB (n : Nat) (a d : List (List Int)) : Bool :=
 decide (1 ≤ n) && (decide (n ≤ 6) && (a.length == n && (a.all (fun r => r.length == n + 1) && (d.length == n + 1 && (d.all (fun r => r.length == n) &&
  (List.range n).all fun i => (List.range n).all fun j => b2 (drw (r2 a) (r2 d) i j 0) + b2 (drw (r2 a) (r2 d) i j 1) + b2 (drw (r2 a) (r2 d) i j 2) + b2 (drw (r2 a) (r2 d) i j 3) == 2)))))
theorem all_len {a : List (List Int)} {m : Nat} (h : a.all (fun r => r.length == m) = true) (i : Nat) (hi : i < a.length) : (a.getD i []).length = m := by
 have := List.all_eq_true.1 h a[i] (List.getElem_mem hi)
 rw [List.getD_eq_getElem?_getD, List.getElem?_eq_getElem hi]
 simpa using this
theorem lpB_ok {n : Nat} {a d : List (List Int)} (h : lpB n a d = true) : 1 ≤ n ∧ LpOk n a d := by
 unfold lpB at h
 simp only [Bool.and_eq_true, decide_eq_true_eq, beq_iff_eq] at h
 obtain ⟨h1, h2, h3, h4, h5, h6, h7⟩ := h
 refine ⟨h1, h2, h3, fun i hi => all_len h4 i (by omega), h5, fun i hi => all_len h6 i (by omega), ?_⟩
 intro i j hij
 obtain ⟨g1, g2, g3, g4⟩ := ing_iff.1 hij
 obtain ⟨i, rfl⟩ := Int.eq_ofNat_of_zero_le g1
 obtain ⟨j, rfl⟩ := Int.eq_ofNat_of_zero_le g3
 have k1 := List.all_eq_true.1 h7 i (List.mem_range.2 (by omega))
 have k2 := List.all_eq_true.1 k1 j (List.mem_range.2 (by omega))
 exact beq_iff_eq.1 k2
theorem lpB_of {n : Nat} {a d : List (List Int)} (h1 : 1 ≤ n) (h : LpOk n a d) : lpB n a d = true := by
 unfold lpB
 simp only [Bool.and_eq_true, decide_eq_true_eq, beq_iff_eq]
 refine ⟨h1, h.n6, h.la, ?_, h.ld, ?_, ?_⟩
 ·refine List.all_eq_true.2 fun r hr => ?_
  obtain ⟨i, hi, rfl⟩ := List.getElem_of_mem hr
  have := h.ra i (by have := h.la; omega)
  rw [List.getD_eq_getElem?_getD, List.getElem?_eq_getElem hi] at this
  simpa using this
 ·refine List.all_eq_true.2 fun r hr => ?_
  obtain ⟨i, hi, rfl⟩ := List.getElem_of_mem hr
  have := h.rd' i (by have := h.ld; omega)
  rw [List.getD_eq_getElem?_getD, List.getElem?_eq_getElem hi] at this
  simpa using this
 ·refine List.all_eq_true.2 fun i hi => List.all_eq_true.2 fun j hj => ?_
  have := h.good i j (ing_iff.2 ⟨by omega, by have := List.mem_range.1 hi; omega, by omega, by have := List.mem_range.1 hj; omega⟩)
  simpa using this
def okB (a d : List (List Int)) (n i j s : Int) : Bool := ing n i j && (decide (0 ≤ s) && (decide (s ≤ 3) && drw (r2 a) (r2 d) i j s))
theorem okB_iff {a d : List (List Int)} {n i j s : Int} : okB a d n i j s = true ↔ okS (r2 a) (r2 d) n (i, j, s) := by
 unfold okB okS
 simp only [Bool.and_eq_true, decide_eq_true_eq]
/-- The ends of n rows. -/
def endsL (n : Nat) : List (List Int) := (impl_ends.f 100 (n : Int)).getD []
def endsOk (n : Nat) : Prop := impl_ends.f 100 (n : Int) = some (endsL n) ∧ ((endsL n).all fun r => decide (r.length ≤ 1000)) = true
theorem ends_ok {n : Nat} (h0 : 1 ≤ n) (h1 : n ≤ 6) : endsOk n := by
 unfold endsOk
 have e : n = 1 ∨ n = 2 ∨ n = 3 ∨ n = 4 ∨ n = 5 ∨ n = 6 := by omega
 rcases e with rfl | rfl | rfl | rfl | rfl | rfl <;> decide +kernel
/-- What comes back for a line: its points, and the end to which it leads, or -1. -/
def foV (n : Nat) (r : List (List Int) × Int × Bool) : List (List Int) × Int :=
 (r.1, if r.2.2 = true then -1 else endIx (endsL n) (r.2.1 :: (r.1.getLast?.getD [])))
def impl_Loops_follow.f (a0_0 : Int) (l0_1 : List (List Int)) (l0_2 : List (List Int)) (a1 : Int) (a2 : Int) (a3 : Int) : Option (List (List Int) × Int) :=
 if (decide (0 ≤ a0_0) && (lpB a0_0.toNat l0_1 l0_2 && okB l0_1 l0_2 a0_0 a1 a2 a3)) = true then (wy (r2 l0_1) (r2 l0_2) a0_0 (a1, a2, a3) 144 (a1, a2, a3)).map (foV a0_0.toNat) else none
theorem impl_Loops_follow.calls (a0_0 : Int) (A0_1 : Option Addr) (c0_1 : Nat) (l0_1 : List (List Int)) (A0_2 : Option Addr) (c0_2 : Nat) (l0_2 : List (List Int)) (a1 : Int) (a2 : Int) (a3 : Int) (r1 : List (List Int)) (r2 : Int) (w : World) (hr0_1 : Kd.C (Kd.slice 3 (Kd.int .i64)) w A0_1 l0_1.length l0_1) (hc0_1 : l0_1.length ≤ c0_1) (hr0_2 : Kd.C (Kd.slice 3 (Kd.int .i64)) w A0_2 l0_2.length l0_2) (hc0_2 : l0_2.length ≤ c0_2) (h : impl_Loops_follow.f a0_0 l0_1 l0_2 a1 a2 a3 = some (r1, r2)) :
  Calls Try.prog 58 #[.agg #[.int .i64 a0_0, .slice A0_1 l0_1.length c0_1, .slice A0_2 l0_2.length c0_2], .int .i64 a1, .int .i64 a2, .int .i64 a3] w fun e w' => ∃ v0_ : Value, e = .returned (.tuple #[v0_, .int .i64 r2]) ∧ Kd.S (Kd.slice 3 (Kd.int .i64)) 28 w' w.heap.size (fun _ => True) v0_ r1 ∧ Below w.heap.size w w' := by
 unfold impl_Loops_follow.f at h
 split at h
 case isFalse => cases h
 rename_i hc
 simp only [Bool.and_eq_true, decide_eq_true_eq] at hc
 obtain ⟨h0, h1, h2⟩ := hc
 obtain ⟨n, rfl⟩ := Int.eq_ofNat_of_zero_le h0
 rw [Int.toNat_natCast] at h1 h
 obtain ⟨hn1, hok⟩ := lpB_ok h1
 obtain ⟨⟨pts, ex, cl⟩, hw, hv⟩ := Option.map_eq_some_iff.1 h
 obtain ⟨he1, he2⟩ := ends_ok hn1 hok.n6
 simp only [foV, Prod.mk.injEq] at hv
 obtain ⟨rfl, hv2⟩ := hv
 refine follow_walk n l0_1 l0_2 hok A0_1 c0_1 A0_2 c0_2 a1 a2 a3 (okB_iff.1 h2) (endsL n) 100 he1 (fun x hx => of_decide_eq_true (List.all_eq_true.1 he2 x hx)) w hr0_1 hc0_1 hr0_2 hc0_2 pts ex cl hw r2 (fun i j hl => ?_)
 rw [hl] at hv2
 exact hv2.symm
end Go.Proofs.Ythbkjaieenochaa
