/- Texts of one chain, in build order. -/
import Derived.Test.YtbihfdadnkmckaaYBAreLoopsFromLoopsLoopsOf7
import Derived.Laws.EntriesVeiled
namespace Go.Proofs.Ytbihfdadnkmckaa.L
open Go.RowKit Go.Proofs.Ytbihfdadnkmckaa Go.Proofs.Ytbihfdadnkmckaa.P Go.Proofs.YtbihfdadnkmckaaW.PrintWords Go.Proofs.YtbihfdadnkmckaaW.PrintLast Go.Proofs.YtbihfdadnkmckaaW.PrintMore
set_option linter.unusedVariables false
set_option linter.unusedSimpArgs false

theorem Own.set {B a b g i : Nat} {w : World} {v : Value} {T : List (List Int)} (h : Own B a b w v T) (hg : b ≤ g ∨ g < a) (u : Value) : Own B a b (w.setCell ⟨g, i, none⟩ u) v T :=
  h.kept (Kept.setCell (Kept.refl w (Itv g (g + 1))) (.inl ⟨Nat.le_refl _, Nat.lt_succ_self _⟩) u) (hg.imp id id)
/-- Two tables behind one another. -/
structure Own2 (B a c : Nat) (w : World) (v1 v2 : Value) (T U : List (List Int)) : Prop where
  two : ∃ m, Own B a m w v1 T ∧ Own B m c w v2 U ∧ a ≤ m ∧ m ≤ c
theorem Own2.lo {B a c : Nat} {w : World} {v1 v2 : Value} {T U : List (List Int)} (h : Own2 B a c w v1 v2 T U) : B ≤ a := by obtain ⟨m, h1, _⟩ := h.two; exact h1.lo
theorem Own2.hi {B a c : Nat} {w : World} {v1 v2 : Value} {T U : List (List Int)} (h : Own2 B a c w v1 v2 T U) : c ≤ w.heap.size := by obtain ⟨m, _, h2, _⟩ := h.two; exact h2.hi
theorem Own2.below {B a c : Nat} {w w' : World} {v1 v2 : Value} {T U : List (List Int)} (h : Own2 B a c w v1 v2 T U) (hb : Below w.heap.size w w') : Own2 B a c w' v1 v2 T U := by
  obtain ⟨m, h1, h2, h3⟩ := h.two
  exact ⟨m, h1.below hb, h2.below hb, h3⟩
theorem Own2.kept {B a b c d : Nat} {w w' : World} {v1 v2 : Value} {T U : List (List Int)} (h : Own2 B a b w v1 v2 T U) (hk : Kept w w' (Itv c d)) (hd : b ≤ c ∨ d ≤ a) : Own2 B a b w' v1 v2 T U := by
  obtain ⟨m, h1, h2, h3, h4⟩ := h.two
  exact ⟨m, h1.kept hk (hd.imp (fun h => Nat.le_trans h4 h) id), h2.kept hk (hd.imp id (fun h => Nat.le_trans h h3)), h3, h4⟩
theorem Own2.set {B a b g i : Nat} {w : World} {v1 v2 : Value} {T U : List (List Int)} (h : Own2 B a b w v1 v2 T U) (hg : b ≤ g ∨ g < a) (u : Value) : Own2 B a b (w.setCell ⟨g, i, none⟩ u) v1 v2 T U :=
  h.kept (Kept.setCell (Kept.refl w (Itv g (g + 1))) (.inl ⟨Nat.le_refl _, Nat.lt_succ_self _⟩) u) (hg.imp id id)
theorem Own2.wide {B a a' b b' : Nat} {w : World} {v1 v2 : Value} {T U : List (List Int)} (h : Own2 B a b w v1 v2 T U) (ha : a' ≤ a) (hb : b ≤ b') (h0 : B ≤ a') (h1 : b' ≤ w.heap.size) : Own2 B a' b' w v1 v2 T U := by
  obtain ⟨m, h1_, h2, h3, h4⟩ := h.two
  exact ⟨m, ⟨Kd.S_mono h1_.s (fun k hk => ⟨by have := hk.1; omega, hk.2⟩), h0, h1_.hi⟩, ⟨Kd.S_mono h2.s (fun k hk => ⟨hk.1, by have := hk.2; omega⟩), h2.lo, h1⟩, by omega, by omega⟩
theorem Own2.lower {B B' a b : Nat} {w : World} {v1 v2 : Value} {T U : List (List Int)} (h : Own2 B a b w v1 v2 T U) (hB : B' ≤ B) : Own2 B' a b w v1 v2 T U := by
  obtain ⟨m, h1, h2, h3, h4⟩ := h.two
  exact ⟨m, ⟨Kd.S_lower h1.s hB, Nat.le_trans hB h1.lo, h1.hi⟩, ⟨Kd.S_lower h2.s hB, Nat.le_trans hB h2.lo, h2.hi⟩, h3, h4⟩
theorem Own2.slices {B a c : Nat} {w : World} {v1 v2 : Value} {T U : List (List Int)} (h : Own2 B a c w v1 v2 T U) : ∃ A1 c1 A2 c2, v1 = .slice A1 T.length c1 ∧ T.length ≤ c1 ∧ v2 = .slice A2 U.length c2 ∧ U.length ≤ c2 := by
  obtain ⟨m, h1, h2, _⟩ := h.two
  obtain ⟨A1, c1, e1, l1⟩ := h1.slice
  obtain ⟨A2, c2, e2, l2⟩ := h2.slice
  exact ⟨A1, c1, A2, c2, e1, l1, e2, l2⟩
theorem Own2.reads1 {B a c n1 c1 : Nat} {A1 : Option Addr} {w : World} {v2 : Value} {T U : List (List Int)} (h : Own2 B a c w (.slice A1 n1 c1) v2 T U) : Kd.C (Kd.slice 3 (Kd.int .i64)) w A1 T.length T := by
  obtain ⟨m, h1, h2, _⟩ := h.two
  exact h1.reads
theorem Own2.reads2 {B a c n2 c2 : Nat} {A2 : Option Addr} {w : World} {v1 : Value} {T U : List (List Int)} (h : Own2 B a c w v1 (.slice A2 n2 c2) T U) : Kd.C (Kd.slice 3 (Kd.int .i64)) w A2 U.length U := by
  obtain ⟨m, h1, h2, _⟩ := h.two
  exact h2.reads
/-- A call gives loops of its own. -/
def RetLo (w : World) (n : Int) (T U : List (List Int)) (e : Ending) (w' : World) : Prop := ∃ v1 v2 : Value, e = .returned (.agg #[.int .i64 n, v1, v2]) ∧ Own2 w.heap.size w.heap.size w'.heap.size w' v1 v2 T U ∧ Below w.heap.size w w'

set_option maxHeartbeats 4000000 in
theorem toLoops_own (n : Int) (A : Option Addr) (c : Nat) (l : List (List Int)) (A2 : Option Addr) (c2 : Nat) (l2 : List (List Int)) (w : World) (hr : Kd.C (Kd.slice 3 (Kd.int .i64)) w A l.length l) (hc : l.length ≤ c) (hr2 : Kd.C (Kd.slice 3 (Kd.int .i64)) w A2 l2.length l2) (hc2 : l2.length ≤ c2) (hf : fewRows l) (hf2 : fewRows l2) :
    Calls Try.prog 17 #[.agg #[.int .i64 n, .slice A l.length c, .slice A2 l2.length c2]] w (RetLo w n l l2) := by
  have hu1 := Try.underlying33
  have hu2 := Try.underlying25
  have HT1 := Aside0.mk (fun W (hb : Below w.heap.size w W) => laws_toIntSS.calls A c l l W (Kd.C_below hr hb) hc (toIntSS_eq l hf.ok))
  have HT2 := Aside0.mk (fun W (hb : Below w.heap.size w W) => laws_toIntSS.calls A2 c2 l2 l2 W (Kd.C_below hr2 hb) hc2 (toIntSS_eq l2 hf2.ok))
  clear hr hr2
  go_enter Try.func17, Try.ntmps17
  go_wp2_with (first
    | ((with_reducible refine gate_dst (N := 1) rfl ?_); refine box_event ?hg (N := 1) ?hd (cs := #[.int .i64 n, .slice A l.length c, .slice A2 l2.length c2]) (t := 33) ?hr ?_; (case hd => rfl); (case hg => rfl); (case hr => first | (go_simp; done) | (go_simp; rfl)); intro g1 hg w1 hbox hb; have HB1 := Aside0.mk hb; have B11 := Aside0.mk hbox; have G1 := Aside0.mk (show w.heap.size ≤ g1 by rw [hg]; exact Nat.le_refl _); clear hbox hb hg)
    | ((with_reducible refine gate_dst (N := 2) rfl ?_); refine box_event ?hg (N := 2) ?hd (cs := #[.int .i64 0, .slice none 0 0, .slice none 0 0]) (t := 25) ?hr ?_; (case hd => rfl); (case hg => rfl); (case hr => first | (go_simp; done) | (go_simp; rfl)); intro g2 hg w2 hbox hb; have HB2 := Aside0.mk (below_step HB1.out hb); have B12 := Aside0.mk (blk_below B11.out hb); have B22 := Aside0.mk hbox; have G2 := Aside0.mk (show w.heap.size ≤ g2 by rw [hg]; exact HB1.out.size); have NE12 := Aside0.mk (show g1 ≠ g2 by rw [hg]; exact Nat.ne_of_lt (blk_lt B11.out)); clear hbox hb hg)
    | ((with_reducible refine gate_dst (N := 3) rfl ?_); refine box_event ?hg (N := 3) ?hd (cs := #[.int .i64 0, .slice none 0 0, .slice none 0 0]) (t := 25) ?hr ?_; (case hd => rfl); (case hg => rfl); (case hr => first | (go_simp; done) | (go_simp; rfl)); intro g3 hg w3 hbox hb; have HB3 := Aside0.mk (below_step HB2.out hb); have B13 := Aside0.mk (blk_below B12.out hb); have B23 := Aside0.mk (blk_below B22.out hb); have B33 := Aside0.mk hbox; have G3 := Aside0.mk (show w.heap.size ≤ g3 by rw [hg]; exact HB2.out.size); have NE13 := Aside0.mk (show g1 ≠ g3 by rw [hg]; exact Nat.ne_of_lt (blk_lt B12.out)); have NE23 := Aside0.mk (show g2 ≠ g3 by rw [hg]; exact Nat.ne_of_lt (blk_lt B22.out)); have LT2 := Aside0.mk (show g2 < g3 by rw [hg]; exact blk_lt B22.out); have LT3 := Aside0.mk (blk_lt B33.out); have NE31 := Aside0.mk (Ne.symm NE13.out); have k13_0 : w3.cell? ⟨g1, 0, none⟩ = some (.int .i64 n) := (blk_cell B13.out 0).trans rfl; have k13_1 : w3.cell? ⟨g1, 1, none⟩ = some (.slice A l.length c) := (blk_cell B13.out 1).trans rfl; have k13_2 : w3.cell? ⟨g1, 2, none⟩ = some (.slice A2 l2.length c2) := (blk_cell B13.out 2).trans rfl; have k33_0 : w3.cell? ⟨g3, 0, none⟩ = some (.int .i64 0) := (blk_cell B33.out 0).trans rfl; have k33_1 : w3.cell? ⟨g3, 1, none⟩ = some (.slice none 0 0) := (blk_cell B33.out 1).trans rfl; have k33_2 : w3.cell? ⟨g3, 2, none⟩ = some (.slice none 0 0) := (blk_cell B33.out 2).trans rfl; have f33_0 := blk_frozen B33.out 0; have f33_1 := blk_frozen B33.out 1; have f33_2 := blk_frozen B33.out 2; have ne31 := NE31.out; have ne13 := NE13.out; have ne23 := NE23.out; have ne32 := Ne.symm NE23.out; clear hbox hb hg)
    | (go_at_call 8; obtain ⟨w4, hw4⟩ : ∃ w4, w4 = w3.setCell ⟨g3, 0, none⟩ (.int .i64 n) := ⟨_, rfl⟩; rw [← hw4];
       have HB4 := Aside0.mk (show Below w.heap.size w w4 by rw [hw4]; exact HB3.out.setCell (p := ⟨g3, 0, none⟩) G3.out _);
       have B14 := Aside0.mk (show w4.heap[g1]? = some (.cells #[.int .i64 n, .slice A l.length c, .slice A2 l2.length c2] 33 (0, 0)) by rw [hw4]; exact blk_far B13.out NE13.out _);
       have B24 := Aside0.mk (show w4.heap[g2]? = some (.cells #[.int .i64 0, .slice none 0 0, .slice none 0 0] 25 (0, 0)) by rw [hw4]; exact blk_far B23.out NE23.out _);
       have B34 := Aside0.mk (show w4.heap[g3]? = some (.cells #[.int .i64 n, .slice none 0 0, .slice none 0 0] 25 (0, 0)) by rw [hw4]; exact blk_put (cs := #[.int .i64 0, .slice none 0 0, .slice none 0 0]) B33.out 0 _ rfl);
       refine (HT1.out w4 HB4.out).mono ?_; rintro e w5 ⟨v1, rfl, hS, hb⟩;
       have O15 := Aside0.mk (Own.new hS HB4.out.size); clear hS; obtain ⟨P1, d1, rfl, hd1⟩ := O15.out.slice;
       have HB5 := Aside0.mk (below_step HB4.out hb); have B15 := Aside0.mk (blk_below B14.out hb); have B25 := Aside0.mk (blk_below B24.out hb); have B35 := Aside0.mk (blk_below B34.out hb); have L34 := Aside0.mk (blk_lt B34.out); have SZ5 := Aside0.mk hb.size;
       clear hb k13_0 k13_1 k13_2 k33_0 k33_1 k33_2 f33_0 f33_1 f33_2 hw4;
       have k15_0 := (blk_cell B15.out 0).trans rfl; have k15_1 : w5.cell? ⟨g1, 1, none⟩ = some (.slice A l.length c) := (blk_cell B15.out 1).trans rfl; have k15_2 : w5.cell? ⟨g1, 2, none⟩ = some (.slice A2 l2.length c2) := (blk_cell B15.out 2).trans rfl;
       have k35_0 : w5.cell? ⟨g3, 0, none⟩ = some (.int .i64 n) := (blk_cell B35.out 0).trans rfl; have k35_1 : w5.cell? ⟨g3, 1, none⟩ = some (.slice none 0 0) := (blk_cell B35.out 1).trans rfl; have k35_2 : w5.cell? ⟨g3, 2, none⟩ = some (.slice none 0 0) := (blk_cell B35.out 2).trans rfl; have f35_1 := blk_frozen B35.out 1; have f35_2 := blk_frozen B35.out 2)
    | (go_at_call 8; obtain ⟨w6, hw6⟩ : ∃ w6, w6 = w5.setCell ⟨g3, 1, none⟩ (.slice P1 l.length d1) := ⟨_, rfl⟩; rw [← hw6];
       have HB6 := Aside0.mk (show Below w.heap.size w w6 by rw [hw6]; exact HB5.out.setCell (p := ⟨g3, 1, none⟩) G3.out _);
       have B26 := Aside0.mk (show w6.heap[g2]? = some (.cells #[.int .i64 0, .slice none 0 0, .slice none 0 0] 25 (0, 0)) by rw [hw6]; exact blk_far B25.out NE23.out _);
       have B36 := Aside0.mk (show w6.heap[g3]? = some (.cells #[.int .i64 n, .slice P1 l.length d1, .slice none 0 0] 25 (0, 0)) by rw [hw6]; exact blk_put (cs := #[.int .i64 n, .slice none 0 0, .slice none 0 0]) B35.out 1 _ rfl);
       have O16 := Aside0.mk (show Own w.heap.size w4.heap.size w5.heap.size w6 (.slice P1 l.length d1) l by rw [hw6]; exact Own.set O15.out (.inr L34.out) _);
       have SZ6 := Aside0.mk (show w6.heap.size = w5.heap.size by rw [hw6]; simp);
       refine (HT2.out w6 HB6.out).mono ?_; rintro e w7 ⟨v2, rfl, hS, hb⟩;
       have O27 := Aside0.mk (Own.new hS HB6.out.size); clear hS; obtain ⟨P2, d2, rfl, hd2⟩ := O27.out.slice; have O17 := Aside0.mk (O16.out.below hb);
       have HB7 := Aside0.mk (below_step HB6.out hb); have B27 := Aside0.mk (blk_below B26.out hb); have B37 := Aside0.mk (blk_below B36.out hb); have SZ7 := Aside0.mk hb.size;
       clear hb k15_0 k15_1 k15_2 k35_0 k35_1 k35_2 f35_1 f35_2 hw6;
       have k27_0 : w7.cell? ⟨g2, 0, none⟩ = some (.int .i64 0) := (blk_cell B27.out 0).trans rfl; have k27_1 : w7.cell? ⟨g2, 1, none⟩ = some (.slice none 0 0) := (blk_cell B27.out 1).trans rfl; have k27_2 : w7.cell? ⟨g2, 2, none⟩ = some (.slice none 0 0) := (blk_cell B27.out 2).trans rfl; have f27_0 := blk_frozen B27.out 0; have f27_1 := blk_frozen B27.out 1; have f27_2 := blk_frozen B27.out 2;
       have k37_0 : w7.cell? ⟨g3, 0, none⟩ = some (.int .i64 n) := (blk_cell B37.out 0).trans rfl; have k37_1 : w7.cell? ⟨g3, 1, none⟩ = some (.slice P1 l.length d1) := (blk_cell B37.out 1).trans rfl; have k37_2 : w7.cell? ⟨g3, 2, none⟩ = some (.slice none 0 0) := (blk_cell B37.out 2).trans rfl; have f37_2 := blk_frozen B37.out 2))
  refine bodyPost_ret (results_cell_row rfl _ _ g2 25 #[.int .i64 n, .slice P1 l.length d1, .slice P2 l2.length d2] (0, 0) _ rfl (by
    refine blk_put (cs := #[.int .i64 n, .slice P1 l.length d1, .slice none 0 0]) ?_ 2 _ rfl
    refine blk_put (cs := #[.int .i64 n, .slice none 0 0, .slice none 0 0]) ?_ 1 _ rfl
    refine blk_put (cs := #[.int .i64 0, .slice none 0 0, .slice none 0 0]) ?_ 0 _ rfl
    refine blk_far ?_ NE23.out _
    exact B27.out) Try.underlying25 rfl (by kernel_rfl)) rfl ?_
  have h1 := L34.out
  have h2 := SZ5.out
  have h3 := SZ6.out
  have h4 := SZ7.out
  have h5 := LT2.out
  have h6 := LT3.out
  refine ⟨_, _, rfl, ?_, Below.setCell (Below.setCell (Below.setCell (Below.setCell HB7.out G3.out _) G2.out _) G2.out _) G2.out _⟩
  have key : Own2 w.heap.size w4.heap.size w7.heap.size w7 (.slice P1 l.length d1) (.slice P2 l2.length d2) l l2 := by
    have hO := O27.out
    rw [h3] at hO
    exact ⟨_, O17.out, hO, h2, by omega⟩
  have k2 := ((((key.set (g := g3) (i := 2) (.inr h1) (.slice P2 l2.length d2)).set (g := g2) (i := 0) (.inr (by omega)) (.int .i64 n)).set (g := g2) (i := 1) (.inr (by omega)) (.slice P1 l.length d1)).set (g := g2) (i := 2) (.inr (by omega)) (.slice P2 l2.length d2))
  exact k2.wide (by have := HB4.out.size; omega) (by simp) (Nat.le_refl _) (Nat.le_refl _)
/-- Marks. -/
theorem markLoops_own {B a b : Nat} (n : Int) {v1 v2 : Value} {T U : List (List Int)} {W w : World} (hW : W.heap.size = B) (hB : Below B W w) (h : Own2 B a b w v1 v2 T U) (hf : fewRows T) (hf2 : fewRows U) :
    Calls Try.prog 13 #[.agg #[.int .i64 n, v1, v2], .int .i64 1] w fun e w' => e = .returned (.int .i64 (nTo U (nTo T 1 T.length) U.length : Nat)) ∧ Own2 B a b w' v1 v2 (markT T 1) (markT U (nTo T 1 T.length)) ∧ Below B W w' ∧ Kept w w' (Itv a b) := by
  subst hW
  obtain ⟨m, h1, h2, am, mb⟩ := h.two
  obtain ⟨A1, c1, rfl, _⟩ := h1.slice
  obtain ⟨A2, c2, rfl, _⟩ := h2.slice
  have hu2 := Try.underlying25
  have hn1 := few_n hf
  have hnn := nTo_le U (nTo T 1 T.length) 1048576 hf2.2 U.length
  have hn0 := nTo_le T 1 1048576 hf.2 T.length
  have hm1 : T.length * 1048576 ≤ 1048576 * 1048576 := Nat.mul_le_mul_right _ hf.1
  have hm2 : U.length * 1048576 ≤ 1048576 * 1048576 := Nat.mul_le_mul_right _ hf2.1
  have HM1 := Aside0.mk (fun W1 (hb : Below W.heap.size W W1) (ho : Own W.heap.size a m W1 (.slice A1 T.length c1) T) => markIntSS_calls (Itv a m) _ T 1 W W1 hb ho.s hn1)
  have HM2 := Aside0.mk (fun W1 (hb : Below W.heap.size W W1) (ho : Own W.heap.size m b W1 (.slice A2 U.length c2) U) => markIntSS_calls (Itv m b) _ U (nTo T 1 T.length) W W1 hb ho.s (by omega))
  obtain ⟨k1, hk1⟩ : ∃ k, k = nTo T 1 T.length := ⟨_, rfl⟩
  rw [← hk1] at HM1 HM2
  rw [← hk1]
  obtain ⟨k2, hk2⟩ : ∃ k, k = nTo U k1 U.length := ⟨_, rfl⟩
  rw [← hk2] at HM2
  rw [← hk2]
  have O1 := Aside0.mk h1
  have O2 := Aside0.mk h2
  have HB := Aside0.mk hB
  have O2h := Aside0.mk h2.hi
  have AM := Aside0.mk am
  have MB := Aside0.mk mb
  clear h h1 h2 hB hn1 hnn hn0 hm1 hm2 hk1 hk2 am mb hf hf2
  go_enter Try.func13, Try.ntmps13
  go_wp2_with (first
    | ((with_reducible refine gate_dst (N := 2) rfl ?_); refine box_event ?hg (N := 2) ?hd (cs := #[.int .i64 n, .slice A1 T.length c1, .slice A2 U.length c2]) (t := 25) ?hr ?_; (case hd => rfl); (case hg => rfl); (case hr => first | (go_simp; done) | (go_simp; rfl)); intro g1 hg w1 hbox hb;
       have BK := Aside0.mk hbox; have HB1 := Aside0.mk (below_step HB.out hb); have O11 := Aside0.mk (O1.out.below hb); have O21 := Aside0.mk (O2.out.below hb); have GE := Aside0.mk (show w.heap.size ≤ g1 by rw [hg]; exact Nat.le_refl _); have KP1 := Aside0.mk (Kept.of_below hb (Itv a b)); clear hbox hb hg O1 O2;
       have k1_1 : w1.cell? ⟨g1, 1, none⟩ = some (.slice A1 T.length c1) := (blk_cell BK.out 1).trans rfl; have k1_2 : w1.cell? ⟨g1, 2, none⟩ = some (.slice A2 U.length c2) := (blk_cell BK.out 2).trans rfl)
    | (go_at_call 12; refine (HM1.out w1 HB1.out O11.out).mono ?_; rintro e w2 ⟨rfl, hS, hb, hk⟩;
       have O12 := Aside0.mk (show Own W.heap.size a m w2 (.slice A1 T.length c1) (markT T 1) from ⟨hS, O11.out.lo, Nat.le_trans O11.out.hi hk.1⟩); have O22 := Aside0.mk (O21.out.kept hk (.inr (Nat.le_refl _))); have HB2 := Aside0.mk hb;
       have BK2 := Aside0.mk ((hk.2 g1 (blk_lt BK.out) (fun hi => by have := hi.2; have := MB.out; have := O2h.out; have := GE.out; omega)).trans BK.out);
       have KP2 := Aside0.mk (KP1.out.then_ hk (fun k h => .inl ⟨h.1, Nat.lt_of_lt_of_le h.2 MB.out⟩)); clear hS hb hk k1_1 k1_2 O11 O21 HM1;
       have k2_2 : w2.cell? ⟨g1, 2, none⟩ = some (.slice A2 U.length c2) := (blk_cell BK2.out 2).trans rfl)
    | (go_at_call 12; refine (HM2.out w2 HB2.out O22.out).mono ?_; rintro e w3 ⟨rfl, hS, hb, hk⟩;
       have O13 := Aside0.mk (O12.out.kept hk (.inl (Nat.le_refl _))); have O23 := Aside0.mk (show Own W.heap.size m b w3 (.slice A2 U.length c2) (markT U k1) from ⟨hS, O22.out.lo, Nat.le_trans O22.out.hi hk.1⟩); have HB3 := Aside0.mk hb;
       have KP3 := Aside0.mk (KP2.out.then_ hk (fun k h => .inl ⟨Nat.le_trans AM.out h.1, h.2⟩)); clear hS hb hk k2_2))
  go_ret
  exact ⟨rfl, ⟨m, O13.out, O23.out, AM.out, MB.out⟩, HB3.out, KP3.out⟩
set_option maxHeartbeats 4000000 in
/-- The program's loops. -/
theorem loops_own (A0 : Option Addr) (c0 : Nat) (l0 : List (List Int)) (w : World) (hr0 : Kd.C (Kd.slice 3 (Kd.int .i64)) w A0 l0.length l0) (hc0 : l0.length ≤ c0) (hs : isSign l0 = true) :
    Calls Try.prog 27 #[.slice A0 l0.length c0] w (RetLo w l0.length (acM l0) (dnM l0)) := by
  have eg1 : ∀ args w, (callFunc 45 args).run Try.prog w = .ok (.enter 45 args) w := enters_of Try.func45 (by kernel_rfl) rfl
  have eg2 : ∀ args w, (callFunc 48 args).run Try.prog w = .ok (.enter 48 args) w := enters_of Try.func48 (by kernel_rfl) rfl
  obtain ⟨W1, hW1⟩ : ∃ W1, W1 = (w.alloc (.cells #[.slice A0 l0.length c0] 22)).alloc (.cells #[.int .i64 0, .slice none 0 0, .slice none 0 0] 25) := ⟨_, rfl⟩
  have hB1 : Below w.heap.size w W1 := by rw [hW1]; exact below_alloc (below_alloc (Below.refl _ _) _) _
  have hx : W1.cell? ⟨w.heap.size, 0, none⟩ = some (.slice A0 l0.length c0) := by rw [hW1]; exact blk_cell (blk_alloc (blk_newA rfl) _) 0
  have hy : W1.heap[w.heap.size + 1]? = some (.cells #[.int .i64 0, .slice none 0 0, .slice none 0 0] 25 (0, 0)) := by rw [hW1]; exact blk_newA (by simp)
  have h2 := (isSign_facts hs).2.1
  have hC1 := Kd.C_below hr0 hB1
  have HW1 := Aside0.mk hW1
  have HB1 := Aside0.mk hB1
  have HY := Aside0.mk hy
  have HN1 := Aside0.mk (show ((l0.length : Int) + 1) = ((l0.length + 1 : Nat) : Int) by omega)
  have HSZ := Aside0.mk (show W1.heap.size = w.heap.size + 1 + 1 by rw [hW1]; simp)
  have HT1 := Aside0.mk (impl_tableC.calls 45 #[.pointer (some ⟨w.heap.size, 0, none⟩)] (acF l0) l0.length (l0.length + 1) W1 (by omega) (by omega) eg1
    (fun i j W hi hj hb => loops_1.calls l0 i j _ A0 c0 W hs hi hj (Kd.C_below hC1 hb) hc0 (pw_cell_below hb hx)))
  have HT2 := Aside0.mk (fun (w2 : World) (hb2 : Below W1.heap.size W1 w2) => impl_tableC.calls 48 #[.pointer (some ⟨w.heap.size, 0, none⟩)] (dnF l0) (l0.length + 1) l0.length w2 (by omega) (by omega) eg2
    (fun i j W hi hj hb => loops_2.calls l0 i j _ A0 c0 W hs hi hj (Kd.C_below (Kd.C_below hC1 hb2) hb) hc0 (pw_cell_below hb (pw_cell_below hb2 hx))))
  have hn6 : (l0.length : Int) ≤ 10 := by omega
  clear hr0 hs hB1 hC1 hW1 hy
  go_enter Try.func27, Try.ntmps27
  go_wp2_with (first
    | (go_at_call 35; rw [← HW1.out]; have h_ := HT1.out; rw [← HN1.out] at h_; refine h_.mono ?_; clear h_; rintro e w2 ⟨v1, rfl, hS1, hb1⟩; obtain ⟨A1, c1, rfl⟩ := Kd.R_slice (Kd.S_R hS1); have HS1 := Aside0.mk hS1; have HB2 := Aside0.mk hb1; have HT3 := Aside0.mk (HT2.out w2 hb1); clear HT1 hS1 hb1)
    | (go_at_call 35; have h_ := HT3.out; rw [← HN1.out] at h_; refine h_.mono ?_; clear h_; rintro e w3 ⟨v2, rfl, hS2, hb2⟩; obtain ⟨A2, c2, rfl⟩ := Kd.R_slice (Kd.S_R hS2); have HS2 := Aside0.mk hS2; have HB3 := Aside0.mk hb2; have HY3 := Aside0.mk (blk_below (blk_below HY.out HB2.out) hb2); clear HT3 hS2 hb2; have hk0 := blk_cell HY3.out 0; have hk1 := blk_cell HY3.out 1; have hk2 := blk_cell HY3.out 2; have hf0 := blk_frozen HY3.out 0; have hf1 := blk_frozen HY3.out 1; have hf2 := blk_frozen HY3.out 2))
  refine bodyPost_ret (results_cell_row rfl _ _ (w.heap.size + 1) 25 #[.int .i64 (l0.length : Int), .slice A1 (acM l0).length c1, .slice A2 (dnM l0).length c2] (0, 0) _ rfl (by
    refine blk_put (cs := #[.int .i64 (l0.length : Int), .slice A1 (acM l0).length c1, .slice none 0 0]) ?_ 2 _ rfl
    refine blk_put (cs := #[.int .i64 (l0.length : Int), .slice none 0 0, .slice none 0 0]) ?_ 1 _ rfl
    refine blk_put (cs := #[.int .i64 0, .slice none 0 0, .slice none 0 0]) ?_ 0 _ rfl
    exact HY3.out) Try.underlying25 rfl (by kernel_rfl)) rfl ?_
  have hz := HSZ.out
  have hb2 := HB2.out.size
  have hb3 := HB3.out.size
  have o1 := (Own.new HS1.out HB1.out.size).below HB3.out
  have o2 := Own.new HS2.out (Nat.le_trans HB1.out.size hb2)
  have key : Own2 w.heap.size W1.heap.size w3.heap.size w3 (.slice A1 (acM l0).length c1) (.slice A2 (dnM l0).length c2) (acM l0) (dnM l0) := ⟨_, o1, o2, hb2, hb3⟩
  have k2 := (((key.set (g := w.heap.size + 1) (i := 0) (.inr (by omega)) (.int .i64 (l0.length : Int))).set (g := w.heap.size + 1) (i := 1) (.inr (by omega)) (.slice A1 (acM l0).length c1)).set (g := w.heap.size + 1) (i := 2) (.inr (by omega)) (.slice A2 (dnM l0).length c2))
  exact ⟨_, _, rfl, k2.wide (by omega) (by simp) (Nat.le_refl _) (Nat.le_refl _), Below.setCell (Below.setCell (Below.setCell (below_step (below_step HB1.out HB2.out) HB3.out) (by show _ ≤ w.heap.size + 1; omega) _) (by show _ ≤ w.heap.size + 1; omega) _) (by show _ ≤ w.heap.size + 1; omega) _⟩
end Go.Proofs.Ytbihfdadnkmckaa.L

namespace Go.Proofs.Ytbihfdadnkmckaa.P
open Go.RowKit Go.Proofs.YtbihfdadnkmckaaW.PrintWords Go.Proofs.YtbihfdadnkmckaaW.PrintLast Go.Proofs.YtbihfdadnkmckaaW.PrintMore
attribute [local go_sem] max2_int min2_int max_two min_two max_three min_three max_four min_four   -- for this text's walks alone
set_option linter.unusedVariables false
set_option linter.unusedSimpArgs false

def laws_heldLoops.f (k : Nat) (a0_0 : Int) (l0_1 : List (List Int)) (l0_2 : List (List Int)) (a1 : Int) : Option (Int) := (laws_heldIntSS.f k l0_1 a1).bind fun t193 => (if t193 < 0 then (some (-1)) else ((laws_heldIntSS.f k l0_2 t193).bind fun t194 => (if t194 < 0 then (some (-1)) else (some t194))))
set_option maxHeartbeats 8000000 in
set_option maxRecDepth 100000 in
theorem laws_heldLoops.calls (k : Nat) (a0_0 : Int) (A0_1 : Option Addr) (c0_1 : Nat) (l0_1 : List (List Int)) (A0_2 : Option Addr) (c0_2 : Nat) (l0_2 : List (List Int)) (a1 : Int) (r : Int) (w : World) (hr0_1 : Kd.C (Kd.slice 3 (Kd.int .i64)) w A0_1 l0_1.length l0_1) (hc0_1 : l0_1.length ≤ c0_1) (hr0_2 : Kd.C (Kd.slice 3 (Kd.int .i64)) w A0_2 l0_2.length l0_2) (hc0_2 : l0_2.length ≤ c0_2) (h : laws_heldLoops.f k a0_0 l0_1 l0_2 a1 = some r) :
  Calls Try.prog 14 #[.agg #[.int .i64 a0_0, .slice A0_1 l0_1.length c0_1, .slice A0_2 l0_2.length c0_2], .int .i64 a1] w fun e w' => e = .returned (.int .i64 r) ∧ Below w.heap.size w w' := by
 have hu25 := Try.underlying25
 have HR0_1 := Aside0.mk hr0_1
 have HC0_1 := Aside0.mk hc0_1
 clear hr0_1 hc0_1
 have HR0_2 := Aside0.mk hr0_2
 have HC0_2 := Aside0.mk hc0_2
 clear hr0_2 hc0_2
 have HB := Aside0.mk (Below.refl w.heap.size w)
 have H : ((laws_heldIntSS.f k l0_1 a1).bind fun t193 => (if t193 < 0 then (some (-1)) else ((laws_heldIntSS.f k l0_2 t193).bind fun t194 => (if t194 < 0 then (some (-1)) else (some t194))))) = some r := h
 clear h
 replace H := Option.bind_eq_some_iff.mp H
 obtain ⟨t193, A30, H⟩ := H
 replace H : (if t193 < 0 then (some (-1)) else ((laws_heldIntSS.f k l0_2 t193).bind fun t194 => (if t194 < 0 then (some (-1)) else (some t194)))) = some r := H
 have A3 := Aside0.mk A30
 clear A30
 by_cases c4 : t193 < 0
 ·rw [if_pos c4] at H
  have c4b0 : decide (t193 < 0) = true := decide_eq_true c4
  clear c4
  obtain rfl := Option.some.inj H
  go_enter Try.func14, Try.ntmps14
  go_wp2_with (first | ((with_reducible refine gate_dst (N := 2) rfl ?_); refine box_event ?hg (N := 2) ?hd (cs := #[.int .i64 a0_0, .slice A0_1 l0_1.length c0_1, .slice A0_2 l0_2.length c0_2]) (t := 25) ?hr ?_; (case hd => rfl); (case hg => rfl); (case hr => first | (go_simp; done) | (go_simp; rfl)); intro gb192 hg w5 hbox hb; have n0_ := Aside0.mk (below_step (by repeat (first | (with_reducible first | exact HB.out | apply below_alloc | apply pw_below_drewN | apply below_drew1) | exact HB.out)) hb); have n1_ := Aside0.mk (hbox); have n2_ := Aside0.mk ((by rw [hg]; exact (below_size (by repeat (first | (with_reducible first | exact HB.out | apply below_alloc | apply pw_below_drewN | apply below_drew1) | exact HB.out))) : w.heap.size ≤ gb192)); have n3_ := Aside0.mk ((by rw [hg]; exact (below_size (by repeat (first | (with_reducible first | exact HB.out | apply below_alloc | apply pw_below_drewN | apply below_drew1) | exact HB.out))) : w.heap.size ≤ gb192)); clear HB; have HB := n0_; have BK192 := n1_; have GW192 := n2_; have GE192 := n3_; clear n0_ n1_ n2_ n3_; clear hb hbox hg; have hcz6_0 : w5.cell? ⟨gb192, 0, none⟩ = some (.int .i64 a0_0) := (blk_cell BK192.out 0).trans rfl; have hcz6_1 : w5.cell? ⟨gb192, 1, none⟩ = some (.slice A0_1 l0_1.length c0_1) := (blk_cell BK192.out 1).trans rfl; have hcz6_2 : w5.cell? ⟨gb192, 2, none⟩ = some (.slice A0_2 l0_2.length c0_2) := (blk_cell BK192.out 2).trans rfl; have hfz6_0 := blk_frozen BK192.out 0; have hfz6_1 := blk_frozen BK192.out 1; have hfz6_2 := blk_frozen BK192.out 2) | ((with_reducible refine gate_callee (f := 21) rfl ?_); refine goesL_ (some 8) rfl rfl Try.func21 (by kernel_rfl) rfl #[.slice A0_1 l0_1.length c0_1, .int .i64 a1] rfl (by (try simp only [List.map_toArray, List.map_cons, List.map_nil]); first | done | rfl | (simp only [List.length_drop, List.length_take]; rfl)) ?_; (with_reducible refine (laws_heldIntSS.calls k _ _ l0_1 a1 t193 _ ?side1 ?side2 A3.out).mono ?_); (case side1 => repeat (first | exact (Kd.C_below HR0_1.out HB.out) | (with_reducible refine Kd.C_alloc ?_ _) | (with_reducible refine Kd.C_drewN ?_ _) | (with_reducible refine Kd.C_drew ?_))); (case side2 => exact HC0_1.out); rintro e w' ⟨rfl, ⟨nd, rfl⟩⟩; refine ⟨_, rfl, ?_⟩))
  go_ret
  exact ⟨by first | rfl | (simp [errW_none, errW_some] <;> rfl) | (simp [*, errW_none, errW_some] <;> rfl), by repeat (first | (with_reducible first | exact HB.out | apply below_alloc | apply pw_below_drewN | apply below_drew1 | refine below_set ?_ GE192.out) | exact HB.out)⟩
 ·rw [if_neg c4] at H
  have c4b0 : decide (t193 < 0) = false := decide_eq_false c4
  clear c4
  replace H := Option.bind_eq_some_iff.mp H
  obtain ⟨t194, A70, H⟩ := H
  replace H : (if t194 < 0 then (some (-1)) else (some t194)) = some r := H
  have A7 := Aside0.mk A70
  clear A70
  by_cases c8 : t194 < 0
  ·rw [if_pos c8] at H
   have c8b0 : decide (t194 < 0) = true := decide_eq_true c8
   clear c8
   obtain rfl := Option.some.inj H
   go_enter Try.func14, Try.ntmps14
   go_wp2_with (first | ((with_reducible refine gate_dst (N := 2) rfl ?_); refine box_event ?hg (N := 2) ?hd (cs := #[.int .i64 a0_0, .slice A0_1 l0_1.length c0_1, .slice A0_2 l0_2.length c0_2]) (t := 25) ?hr ?_; (case hd => rfl); (case hg => rfl); (case hr => first | (go_simp; done) | (go_simp; rfl)); intro gb192 hg w9 hbox hb; have n0_ := Aside0.mk (below_step (by repeat (first | (with_reducible first | exact HB.out | apply below_alloc | apply pw_below_drewN | apply below_drew1) | exact HB.out)) hb); have n1_ := Aside0.mk (hbox); have n2_ := Aside0.mk ((by rw [hg]; exact (below_size (by repeat (first | (with_reducible first | exact HB.out | apply below_alloc | apply pw_below_drewN | apply below_drew1) | exact HB.out))) : w.heap.size ≤ gb192)); have n3_ := Aside0.mk ((by rw [hg]; exact (below_size (by repeat (first | (with_reducible first | exact HB.out | apply below_alloc | apply pw_below_drewN | apply below_drew1) | exact HB.out))) : w.heap.size ≤ gb192)); clear HB; have HB := n0_; have BK192 := n1_; have GW192 := n2_; have GE192 := n3_; clear n0_ n1_ n2_ n3_; clear hb hbox hg; have hcz10_0 : w9.cell? ⟨gb192, 0, none⟩ = some (.int .i64 a0_0) := (blk_cell BK192.out 0).trans rfl; have hcz10_1 : w9.cell? ⟨gb192, 1, none⟩ = some (.slice A0_1 l0_1.length c0_1) := (blk_cell BK192.out 1).trans rfl; have hcz10_2 : w9.cell? ⟨gb192, 2, none⟩ = some (.slice A0_2 l0_2.length c0_2) := (blk_cell BK192.out 2).trans rfl; have hfz10_0 := blk_frozen BK192.out 0; have hfz10_1 := blk_frozen BK192.out 1; have hfz10_2 := blk_frozen BK192.out 2) | ((with_reducible refine gate_callee (f := 21) rfl ?_); refine goesL_ (some 8) rfl rfl Try.func21 (by kernel_rfl) rfl #[.slice A0_1 l0_1.length c0_1, .int .i64 a1] rfl (by (try simp only [List.map_toArray, List.map_cons, List.map_nil]); first | done | rfl | (simp only [List.length_drop, List.length_take]; rfl)) ?_; (with_reducible refine (laws_heldIntSS.calls k _ _ l0_1 a1 t193 _ ?side1 ?side2 A3.out).mono ?_); (case side1 => repeat (first | exact (Kd.C_below HR0_1.out HB.out) | (with_reducible refine Kd.C_alloc ?_ _) | (with_reducible refine Kd.C_drewN ?_ _) | (with_reducible refine Kd.C_drew ?_))); (case side2 => exact HC0_1.out); rintro e w' ⟨rfl, ⟨nd, rfl⟩⟩; refine ⟨_, rfl, ?_⟩) | ((with_reducible refine gate_callee (f := 21) rfl ?_); refine goesL_ (some 14) rfl rfl Try.func21 (by kernel_rfl) rfl #[.slice A0_2 l0_2.length c0_2, .int .i64 t193] rfl (by (try simp only [List.map_toArray, List.map_cons, List.map_nil]); first | done | rfl | (simp only [List.length_drop, List.length_take]; rfl)) ?_; (with_reducible refine (laws_heldIntSS.calls k _ _ l0_2 t193 t194 _ ?side1 ?side2 A7.out).mono ?_); (case side1 => repeat (first | exact (Kd.C_below HR0_2.out (by repeat (first | (with_reducible first | exact HB.out | apply below_alloc | apply pw_below_drewN | apply below_drew1 | refine below_set ?_ GE192.out) | exact HB.out))) | (with_reducible refine Kd.C_alloc ?_ _) | (with_reducible refine Kd.C_drewN ?_ _) | (with_reducible refine Kd.C_drew ?_))); (case side2 => exact HC0_2.out); rintro e w' ⟨rfl, ⟨nd, rfl⟩⟩; refine ⟨_, rfl, ?_⟩))
   go_ret
   exact ⟨by first | rfl | (simp [errW_none, errW_some] <;> rfl) | (simp [*, errW_none, errW_some] <;> rfl), by repeat (first | (with_reducible first | exact HB.out | apply below_alloc | apply pw_below_drewN | apply below_drew1 | refine below_set ?_ GE192.out) | exact HB.out)⟩
  ·rw [if_neg c8] at H
   have c8b0 : decide (t194 < 0) = false := decide_eq_false c8
   clear c8
   obtain rfl := Option.some.inj H
   go_enter Try.func14, Try.ntmps14
   go_wp2_with (first | ((with_reducible refine gate_dst (N := 2) rfl ?_); refine box_event ?hg (N := 2) ?hd (cs := #[.int .i64 a0_0, .slice A0_1 l0_1.length c0_1, .slice A0_2 l0_2.length c0_2]) (t := 25) ?hr ?_; (case hd => rfl); (case hg => rfl); (case hr => first | (go_simp; done) | (go_simp; rfl)); intro gb192 hg w11 hbox hb; have n0_ := Aside0.mk (below_step (by repeat (first | (with_reducible first | exact HB.out | apply below_alloc | apply pw_below_drewN | apply below_drew1) | exact HB.out)) hb); have n1_ := Aside0.mk (hbox); have n2_ := Aside0.mk ((by rw [hg]; exact (below_size (by repeat (first | (with_reducible first | exact HB.out | apply below_alloc | apply pw_below_drewN | apply below_drew1) | exact HB.out))) : w.heap.size ≤ gb192)); have n3_ := Aside0.mk ((by rw [hg]; exact (below_size (by repeat (first | (with_reducible first | exact HB.out | apply below_alloc | apply pw_below_drewN | apply below_drew1) | exact HB.out))) : w.heap.size ≤ gb192)); clear HB; have HB := n0_; have BK192 := n1_; have GW192 := n2_; have GE192 := n3_; clear n0_ n1_ n2_ n3_; clear hb hbox hg; have hcz12_0 : w11.cell? ⟨gb192, 0, none⟩ = some (.int .i64 a0_0) := (blk_cell BK192.out 0).trans rfl; have hcz12_1 : w11.cell? ⟨gb192, 1, none⟩ = some (.slice A0_1 l0_1.length c0_1) := (blk_cell BK192.out 1).trans rfl; have hcz12_2 : w11.cell? ⟨gb192, 2, none⟩ = some (.slice A0_2 l0_2.length c0_2) := (blk_cell BK192.out 2).trans rfl; have hfz12_0 := blk_frozen BK192.out 0; have hfz12_1 := blk_frozen BK192.out 1; have hfz12_2 := blk_frozen BK192.out 2) | ((with_reducible refine gate_callee (f := 21) rfl ?_); refine goesL_ (some 8) rfl rfl Try.func21 (by kernel_rfl) rfl #[.slice A0_1 l0_1.length c0_1, .int .i64 a1] rfl (by (try simp only [List.map_toArray, List.map_cons, List.map_nil]); first | done | rfl | (simp only [List.length_drop, List.length_take]; rfl)) ?_; (with_reducible refine (laws_heldIntSS.calls k _ _ l0_1 a1 t193 _ ?side1 ?side2 A3.out).mono ?_); (case side1 => repeat (first | exact (Kd.C_below HR0_1.out HB.out) | (with_reducible refine Kd.C_alloc ?_ _) | (with_reducible refine Kd.C_drewN ?_ _) | (with_reducible refine Kd.C_drew ?_))); (case side2 => exact HC0_1.out); rintro e w' ⟨rfl, ⟨nd, rfl⟩⟩; refine ⟨_, rfl, ?_⟩) | ((with_reducible refine gate_callee (f := 21) rfl ?_); refine goesL_ (some 14) rfl rfl Try.func21 (by kernel_rfl) rfl #[.slice A0_2 l0_2.length c0_2, .int .i64 t193] rfl (by (try simp only [List.map_toArray, List.map_cons, List.map_nil]); first | done | rfl | (simp only [List.length_drop, List.length_take]; rfl)) ?_; (with_reducible refine (laws_heldIntSS.calls k _ _ l0_2 t193 t194 _ ?side1 ?side2 A7.out).mono ?_); (case side1 => repeat (first | exact (Kd.C_below HR0_2.out (by repeat (first | (with_reducible first | exact HB.out | apply below_alloc | apply pw_below_drewN | apply below_drew1 | refine below_set ?_ GE192.out) | exact HB.out))) | (with_reducible refine Kd.C_alloc ?_ _) | (with_reducible refine Kd.C_drewN ?_ _) | (with_reducible refine Kd.C_drew ?_))); (case side2 => exact HC0_2.out); rintro e w' ⟨rfl, ⟨nd, rfl⟩⟩; refine ⟨_, rfl, ?_⟩))
   go_ret
   exact ⟨by first | rfl | (simp [errW_none, errW_some] <;> rfl) | (simp [*, errW_none, errW_some] <;> rfl), by repeat (first | (with_reducible first | exact HB.out | apply below_alloc | apply pw_below_drewN | apply below_drew1 | refine below_set ?_ GE192.out) | exact HB.out)⟩

end Go.Proofs.Ytbihfdadnkmckaa.P
