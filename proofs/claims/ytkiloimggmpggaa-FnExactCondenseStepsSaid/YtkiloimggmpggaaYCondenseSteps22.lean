/- Texts of one chain, in build order. -/
import Derived.Test.YtkiloimggmpggaaYCondenseSteps21
namespace Go.Proofs.Ytkiloimggmpggaa.L
open Go.RowKit Go.Proofs.Ytkiloimggmpggaa Go.Proofs.Ytkiloimggmpggaa.P Go.Proofs.YtkiloimggmpggaaW.PrintWords Go.Proofs.YtkiloimggmpggaaW.PrintLast Go.Proofs.YtkiloimggmpggaaW.PrintMore
set_option linter.unusedVariables false

def fq (n : Nat) : S25 := ⟨(n : Int), ((n + 1 : Nat) : Int)⟩
/-- A row numbered from n on. -/
def numQ (len : Nat) (n : Nat) : List S25 := (List.range len).map fun i => fq (n + 2 * i)
theorem numQ_length (len n : Nat) : (numQ len n).length = len := by simp [numQ]
theorem rdQ_at (l : List S25) (i : Nat) (h : i < l.length) : rd_T25 l (i : Int) = l[i] := by
 unfold rd_T25
 rw [Int.toNat_natCast, List.getD_eq_getElem?_getD, List.getElem?_eq_getElem h, Option.getD_some]
theorem numQ_at (len n i : Nat) (h : i < len) : rd_T25 (numQ len n) (i : Int) = fq (n + 2 * i) := by rw [rdQ_at _ _ (by rw [numQ_length]; exact h)]; simp [numQ]
def numQS (l : List S25) (n i : Nat) : List S25 := numQ i n ++ l.drop i
theorem numQS_length (l : List S25) (n i : Nat) (h : i ≤ l.length) : (numQS l n i).length = l.length := by simp [numQS, numQ_length]; omega
theorem numQS_set (l : List S25) (n i : Nat) (h : i < l.length) : (numQS l n i).set i (fq (n + 2 * i)) = numQS l n (i + 1) := by
 unfold numQS
 rw [List.set_append, if_neg (by rw [numQ_length]; omega), numQ_length, Nat.sub_self, List.drop_eq_getElem_cons h, List.set_cons_zero]
 simp [numQ, List.range_succ]
theorem markRatioS_l0 (l : List S25) (n : Nat) (hn : n + 2 * l.length ≤ 4611686018427387904) : ∀ (d i : Nat), i + d = l.length → Ev (fun k => laws_markRatioS.l0 k (numQS l n i) ((n + 2 * i : Nat) : Int) i) (((n + 2 * l.length : Nat) : Int), numQ l.length n) := by
 intro d
 induction d with
 | zero =>
  intro i hi
  refine Ev.step (fun k => by rw [laws_markRatioS.l0]) ?_
  rw [numQS_length l n i (by omega)]
  have e : i = l.length := by omega
  subst e
  refine Ev.ite_neg (by omega) ?_
  unfold numQS
  rw [List.drop_length, List.append_nil]
  exact Ev.now _
 | succ d ih =>
  intro i hi
  refine Ev.step (fun k => by rw [laws_markRatioS.l0]) ?_
  rw [numQS_length l n i (by omega)]
  refine Ev.ite_pos (by omega) (Ev.ite_pos (by omega) ?_)
  refine Ev.some_bind rfl ?_
  rw [Int.toNat_natCast]
  have hlen : ((numQS l n i).set i (⟨((n + 2 * i : Nat) : Int), (rd_T25 (numQS l n i) (i : Int)).f1⟩ : S25)).length = l.length := by rw [List.length_set, numQS_length l n i (by omega)]
  have hat : rd_T25 ((numQS l n i).set i (⟨((n + 2 * i : Nat) : Int), (rd_T25 (numQS l n i) (i : Int)).f1⟩ : S25)) (i : Int) = ⟨((n + 2 * i : Nat) : Int), (rd_T25 (numQS l n i) (i : Int)).f1⟩ := by
   rw [rdQ_at _ _ (by rw [hlen]; omega), List.getElem_set_self]
  rw [hat, List.set_set, wrapS (n + 2 * i) (by omega), wrapS (n + 2 * i + 1) (by omega), wrapS i (by omega)]
  rw [show ((⟨(⟨((n + 2 * i : Nat) : Int), (rd_T25 (numQS l n i) (i : Int)).f1⟩ : S25).f0, ((n + 2 * i + 1 : Nat) : Int)⟩ : S25)) = fq (n + 2 * i) from rfl, numQS_set l n i (by omega)]
  exact ih (i + 1) (by omega)
theorem markRatioS_ev (l : List S25) (n : Nat) (hn : n + 2 * l.length ≤ 4611686018427387904) : Ev (fun k => laws_markRatioS.f k l n) (((n + 2 * l.length : Nat) : Int), numQ l.length n) := by
 have := markRatioS_l0 l n hn l.length 0 (by omega)
 simpa [numQS, numQ, laws_markRatioS.f] using this
/-- The number with which row i begins. -/
def nQ (T : List (List S25)) (n : Nat) : Nat → Nat
 | 0 => n
 | i + 1 => nQ T n i + 2 * (T.getD i []).length
theorem nQ_mono (T : List (List S25)) (n : Nat) : ∀ (d i : Nat), nQ T n i ≤ nQ T n (i + d)
 | 0, i => Nat.le_refl _
 | d + 1, i => Nat.le_trans (nQ_mono T n d i) (by show _ ≤ nQ T n (i + d) + _; omega)
def markQS (T : List (List S25)) (n i : Nat) : List (List S25) := (List.range T.length).map fun k => if k < i then numQ (T.getD k []).length (nQ T n k) else T.getD k []
def markQ (T : List (List S25)) (n : Nat) : List (List S25) := markQS T n T.length
theorem markQS_length (T : List (List S25)) (n i : Nat) : (markQS T n i).length = T.length := by simp [markQS]
theorem markQS_zero (T : List (List S25)) (n : Nat) : markQS T n 0 = T := by
 apply List.ext_getElem
 ·exact markQS_length _ _ _
 ·intro k h1 h2
  simp [markQS, List.getD_eq_getElem?_getD, h2]
theorem markQS_get (T : List (List S25)) (n i k : Nat) (h : k < T.length) : (markQS T n i).getD k [] = if k < i then numQ (T.getD k []).length (nQ T n k) else T.getD k [] := by
 unfold markQS
 simp [List.getD_eq_getElem?_getD, h]
theorem markQS_set (T : List (List S25)) (n i : Nat) (h : i < T.length) : (markQS T n i).set i (numQ (T.getD i []).length (nQ T n i)) = markQS T n (i + 1) := by
 apply List.ext_getElem
 ·rw [List.length_set, markQS_length, markQS_length]
 ·intro k h1 h2
  rw [markQS_length] at h2
  rw [List.getElem_set]
  simp only [markQS, List.getElem_map, List.getElem_range]
  by_cases e : i = k
  ·subst e
   rw [if_pos rfl, if_pos (by omega)]
  ·rw [if_neg e]
   by_cases h3 : k < i
   ·rw [if_pos h3, if_pos (by omega)]
   ·rw [if_neg h3, if_neg (by omega)]
theorem heldRatioS_l0 (len n : Nat) (hn : n + 2 * len ≤ 4611686018427387904) : ∀ (d i : Nat), i + d = len → Ev (fun k => laws_heldRatioS.l0 k (numQ len n) ((n + 2 * i : Nat) : Int) i) ((n + 2 * len : Nat) : Int) := by
 intro d
 induction d with
 | zero =>
  intro i hi
  refine Ev.step (fun k => by rw [laws_heldRatioS.l0]) ?_
  rw [numQ_length]
  have e : i = len := by omega
  subst e
  exact Ev.ite_neg (by omega) (Ev.now _)
 | succ d ih =>
  intro i hi
  refine Ev.step (fun k => by rw [laws_heldRatioS.l0]) ?_
  rw [numQ_length, numQ_at len n i (by omega), wrapS (n + 2 * i) (by omega), wrapS (n + 2 * i + 1) (by omega), wrapS i (by omega)]
  exact Ev.ite_pos (by omega) (Ev.ite_pos (by omega) (Ev.ite_pos rfl (Ev.ite_pos rfl (ih (i + 1) (by omega)))))
theorem heldRatioS_ev (len n : Nat) (hn : n + 2 * len ≤ 4611686018427387904) : Ev (fun k => laws_heldRatioS.f k (numQ len n) n) ((n + 2 * len : Nat) : Int) := heldRatioS_l0 len n hn len 0 (by omega)
theorem rdQQ_get (T : List (List S25)) (i : Nat) : rd_L4 T (i : Int) = T.getD i [] := by unfold rd_L4; rw [Int.toNat_natCast]
theorem heldRatioSS_l0 (T : List (List S25)) (n : Nat) (hl : T.length ≤ 4611686018427387904) (hn : nQ T n T.length ≤ 4611686018427387904) : ∀ (d i : Nat), i + d = T.length → Ev (fun k => laws_heldRatioSS.l0 k (markQ T n) (nQ T n i) i) ((nQ T n T.length : Nat) : Int) := by
 intro d
 induction d with
 | zero =>
  intro i hi
  refine Ev.step (fun k => by rw [laws_heldRatioSS.l0]) ?_
  rw [show (markQ T n).length = T.length from markQS_length _ _ _]
  have e : i = T.length := by omega
  subst e
  exact Ev.ite_neg (by omega) (Ev.now _)
 | succ d ih =>
  intro i hi
  refine Ev.step (fun k => by rw [laws_heldRatioSS.l0]) ?_
  have h1 := nQ_mono T n (T.length - (i + 1)) (i + 1)
  rw [show i + 1 + (T.length - (i + 1)) = T.length by omega] at h1
  rw [show (markQ T n).length = T.length from markQS_length _ _ _, rdQQ_get, show (markQ T n).getD i [] = numQ (T.getD i []).length (nQ T n i) by rw [markQ, markQS_get T n _ i (by omega), if_pos (by omega)]]
  refine Ev.ite_pos (by omega) (Ev.ite_pos (by omega) (Ev.bind (heldRatioS_ev _ _ (by have : nQ T n (i + 1) = nQ T n i + 2 * (T.getD i []).length := rfl; omega)) (Ev.ite_neg (by omega) ?_)))
  rw [wrapS i (by omega)]
  exact ih (i + 1) (by omega)
theorem heldRatioSS_ev (T : List (List S25)) (n : Nat) (hl : T.length ≤ 4611686018427387904) (hn : nQ T n T.length ≤ 4611686018427387904) : Ev (fun k => laws_heldRatioSS.f k (markQ T n) n) ((nQ T n T.length : Nat) : Int) := heldRatioSS_l0 T n hl hn T.length 0 (by omega)
def fewQ (T : List (List S25)) : Prop := T.length ≤ 1048576 ∧ ∀ r ∈ T, r.length ≤ 1048576
theorem eqRatioS_l0 (l : List S25) (hl : l.length ≤ 1048576) : ∀ (d i : Nat), i + d = l.length → Ev (fun k => laws_eqRatioS.l0 k l l i) true := by
 intro d
 induction d with
 | zero =>
  intro i hi
  refine Ev.step (fun k => by rw [laws_eqRatioS.l0]) ?_
  exact Ev.ite_neg (by omega) (Ev.now _)
 | succ d ih =>
  intro i hi
  refine Ev.step (fun k => by rw [laws_eqRatioS.l0]) ?_
  rw [wrapS i (by omega)]
  exact Ev.ite_pos (by omega) (Ev.ite_pos (by omega) (Ev.ite_pos (by omega) (Ev.some_bind (a := true) (by unfold laws_eqRatio.f; rw [if_pos rfl, if_pos rfl]) (Ev.ite_pos rfl (ih (i + 1) (by omega))))))
theorem eqRatioS_ev (l : List S25) (hl : l.length ≤ 1048576) : Ev (fun k => laws_eqRatioS.f k l l) true := by
 unfold laws_eqRatioS.f
 exact Ev.ite_pos rfl (eqRatioS_l0 l hl l.length 0 (by omega))
theorem eqRatioSS_l0 (T : List (List S25)) (h : fewQ T) : ∀ (d i : Nat), i + d = T.length → Ev (fun k => laws_eqRatioSS.l0 k T T i) true := by
 have h1 := h.1
 intro d
 induction d with
 | zero =>
  intro i hi
  refine Ev.step (fun k => by rw [laws_eqRatioSS.l0]) ?_
  exact Ev.ite_neg (by omega) (Ev.now _)
 | succ d ih =>
  intro i hi
  refine Ev.step (fun k => by rw [laws_eqRatioSS.l0]) ?_
  have hr : (rd_L4 T (i : Int)).length ≤ 1048576 := by
   rw [rdQQ_get, List.getD_eq_getElem?_getD, List.getElem?_eq_getElem (by omega), Option.getD_some]
   exact h.2 _ (List.getElem_mem _)
  rw [wrapS i (by omega)]
  exact Ev.ite_pos (by omega) (Ev.ite_pos (by omega) (Ev.ite_pos (by omega) (Ev.bind (eqRatioS_ev _ hr) (Ev.ite_pos rfl (ih (i + 1) (by omega))))))
theorem eqRatioSS_ev (T : List (List S25)) (h : fewQ T) : Ev (fun k => laws_eqRatioSS.f k T T) true := by
 unfold laws_eqRatioSS.f
 exact Ev.ite_pos rfl (eqRatioSS_l0 T h T.length 0 (by omega))
theorem nQ_le (T : List (List S25)) (n M : Nat) (h : ∀ r ∈ T, r.length ≤ M) : ∀ i, nQ T n i ≤ n + i * (2 * M)
 | 0 => by simp [nQ]
 | i + 1 => by
  have := nQ_le T n M h i
  have h2 : (T.getD i []).length ≤ M := by
   rw [List.getD_eq_getElem?_getD]
   rcases Nat.lt_or_ge i T.length with hi | hi
   ·rw [List.getElem?_eq_getElem hi]; exact h _ (List.getElem_mem hi)
   ·rw [List.getElem?_eq_none hi]; simp
  rw [nQ, Nat.succ_mul i (2 * M)]
  omega
theorem fewQ_n {T : List (List S25)} (h : fewQ T) : nQ T 1 T.length ≤ 4611686018427387904 := by
 have h1 := nQ_le T 1 1048576 h.2 T.length
 have h2 : T.length * (2 * 1048576) ≤ 1048576 * (2 * 1048576) := Nat.mul_le_mul_right _ h.1
 omega

set_option maxHeartbeats 4000000 in
set_option maxRecDepth 100000 in
theorem markRatioSS_calls (P : Nat → Prop) (v : Value) (T : List (List S25)) (n : Nat) (w0 w : World) (hB : Below w0.heap.size w0 w) (hS : Kd.S (Kd.slice 25 k25) 53 w w0.heap.size P v T) (hn : nQ T n T.length ≤ 4611686018427387904) :
  Calls Try.prog 18 #[v, .int .i64 n] w fun e w' => e = .returned (.int .i64 (nQ T n T.length : Nat)) ∧ Kd.S (Kd.slice 25 k25) 53 w' w0.heap.size P v (markQ T n) ∧ Below w0.heap.size w0 w' ∧ Kept w w' P := by
 obtain ⟨A, c, rfl⟩ := Kd.R_slice (Kd.S_R hS)
 have hln := (Kd.R_reads' (Kd.S_R hS)).2.2.2.1
 have HS := Aside0.mk (show Kd.S (Kd.slice 25 k25) 53 w w0.heap.size P (.slice A T.length c) (markQS T n 0) by rw [markQS_zero]; exact hS)
 have HB := Aside0.mk hB
 have HN := Aside0.mk hn
 have HK := Aside0.mk (Kept.refl w P)
 clear hS hB hn
 go_enter Try.func18, Try.ntmps18
 go_wp2
 go_loopg [1, 5] T.length (fun gg s1 s5 wr => ∃ i : Nat, i ≤ T.length ∧ T.length - i ≤ gg ∧ s5 = .int .i64 i ∧ s1 = .int .i64 (nQ T n i : Nat) ∧ Aside0 (Kd.S (Kd.slice 25 k25) 53 wr w0.heap.size P (.slice A T.length c) (markQS T n i)) ∧ Aside0 (Kept w wr P) ∧ Aside0 (Below w0.heap.size w0 wr))
 case atStart => exact ⟨0, Nat.zero_le _, Nat.le_refl _, rfl, rfl, HS, HK, HB⟩
 case round =>
  clear HS HK HB
  obtain ⟨i, hi, hg, rfl, rfl, HS, HK, HB⟩ := hrel
  by_cases hlt : i < T.length
  ·have hz : (i : Int) < (T.length : Int) := by omega
   obtain ⟨ad, rfl, _⟩ := (Kd.R_reads' (Kd.S_R HS.out)).2.2.2.2 (show 0 < (markQS T n i).length by rw [markQS_length]; omega)
   obtain ⟨oki, cs, hcl, hM, hcc, hoki, hback⟩ := Kd.S_borrow HS.out ([] : List S25) (i : Int) (by omega) hz
   obtain ⟨u, rfl, hR⟩ := hM
   simp only [Int.toNat_natCast] at hR hcc hback
   rw [markQS_get T n i i hlt, if_neg (by omega)] at hR
   have hx := hcc 0 _ rfl
   have hsz : (Kd.slice 25 k25).sz = 1 := rfl
   rw [hsz, Nat.mul_one, Nat.add_zero] at hx
   have hle : nQ T n i + 2 * (T.getD i []).length ≤ 4611686018427387904 := by
    have h1 := nQ_mono T n (T.length - (i + 1)) (i + 1)
    rw [show i + 1 + (T.length - (i + 1)) = T.length by omega] at h1
    have h2 : nQ T n (i + 1) = nQ T n i + 2 * (T.getD i []).length := rfl
    have := HN.out
    omega
   obtain ⟨k, hk⟩ := (markRatioS_ev (T.getD i []) (nQ T n i) hle).rounds
   have hR2 : Kd.R k25 25 wr w0.heap.size (fun k => u.ownBlock = some k) u (T.getD i []) := Kd.R_flat (fun h => h) hR (fun k h _ => h)
   have hcall := laws_markRatioS.calls k (fun k => u.ownBlock = some k) u (T.getD i []) (nQ T n i : Nat) _ _ w0 wr HB.out hR2 hk
   have HOW := Aside0.mk (fun k (h : u.ownBlock = some k) => hR.1 k h)
   have HOK := Aside0.mk hoki
   have HBK := Aside0.mk (fun w1 (hk : Kept wr w1 (fun k => u.ownBlock = some k)) (hb : Below w0.heap.size w0 w1) (h : Kd.R k25 25 w1 w0.heap.size (fun k => u.ownBlock = some k ∨ wr.heap.size ≤ k) u (numQ (T.getD i []).length (nQ T n i))) =>
    show Kd.S (Kd.slice 25 k25) 53 w1 w0.heap.size P (.slice (some ad) T.length c) (markQS T n (i + 1)) from by
     have := hback (w1 := w1) (row := u.ownBlock) (x' := numQ (T.getD i []).length (nQ T n i)) ⟨hb.os.trans HB.out.os.symm, hb.tape.trans HB.out.tape.symm, hb.output.trans HB.out.output.symm, hk.1, fun k hk1 hk2 => hk.2 k hk1 (fun h => hk2 h.symm)⟩ (fun k h => hR.1 k h) ⟨u, rfl, Kd.R_flat (fun h => h) h (fun k h _ => hR.1 k h)⟩
     rwa [markQS_set T n i hlt] at this)
   have HKK := Aside0.mk (fun w1 (hk : Kept wr w1 (fun k => u.ownBlock = some k)) => show Kept w w1 P from HK.out.then_ hk (fun k h => .inl (hoki k (hR.1 k h)).1))
   have hnx : nQ T n (i + 1) = nQ T n i + 2 * (T.getD i []).length := rfl
   have HNX := Aside0.mk hnx
   clear hback hR hR2 hcc hk hoki hnx
   go_wp2_with (go_at_call 45; refine hcall.mono ?_; rintro e w1 ⟨rfl, hr, hb, hk⟩; have HS1 := Aside0.mk (HBK.out _ hk hb hr); have HK1 := Aside0.mk (HKK.out _ hk); have HB1 := Aside0.mk hb; clear hr hb hk)
   go_roundg (T.length - (i + 1))
   case measure => omega
   case rel => exact ⟨i + 1, by omega, by omega, by go_num, by rw [HNX.out]; simp [List.getD_eq_getElem?_getD, hlt], HS1, HK1, HB1⟩
  ·have hz : ¬ (i : Int) < (T.length : Int) := by omega
   have e : i = T.length := by omega
   subst e
   go_wp2
   go_ret
   exact ⟨rfl, HS.out, HB.out, HK.out⟩
/-- A table of fractions that lies in the blocks from a to b alone. -/
structure OwnQ (B a b : Nat) (w : World) (v : Value) (T : List (List S25)) : Prop where
 s : Kd.S (Kd.slice 25 k25) 53 w B (Itv a b) v T
 lo : B ≤ a
 hi : b ≤ w.heap.size
theorem OwnQ.new {B : Nat} {w w' : World} {v : Value} {T : List (List S25)} (h : Kd.S (Kd.slice 25 k25) 53 w' w.heap.size (fun _ => True) v T) (hB : B ≤ w.heap.size) : OwnQ B w.heap.size w'.heap.size w' v T :=
 ⟨Kd.S_lower (Kd.S_mono (Kd.S_bound h) (fun _ hk => ⟨hk.2.1, hk.2.2.1⟩)) hB, hB, Nat.le_refl _⟩
theorem OwnQ.below {B a b : Nat} {w w' : World} {v : Value} {T : List (List S25)} (h : OwnQ B a b w v T) (hb : Below w.heap.size w w') : OwnQ B a b w' v T :=
 ⟨Kd.S_kept h.s (Kept.of_below hb (fun _ => False)) (fun _ _ h => h), h.lo, Nat.le_trans h.hi hb.size⟩
theorem OwnQ.kept {B a b c d : Nat} {w w' : World} {v : Value} {T : List (List S25)} (h : OwnQ B a b w v T) (hk : Kept w w' (Itv c d)) (hd : b ≤ c ∨ d ≤ a) : OwnQ B a b w' v T :=
 ⟨Kd.S_kept h.s hk (fun k h1 h2 => by have := h1.1; have := h1.2; have := h2.1; have := h2.2; omega), h.lo, Nat.le_trans h.hi hk.1⟩
theorem OwnQ.slice {B a b : Nat} {w : World} {v : Value} {T : List (List S25)} (h : OwnQ B a b w v T) : ∃ A c, v = .slice A T.length c ∧ T.length ≤ c := by
 obtain ⟨A, c, rfl⟩ := Kd.R_slice (Kd.S_R h.s)
 exact ⟨A, c, rfl, (Kd.R_reads' (Kd.S_R h.s)).2.1⟩
theorem OwnQ.reads {B a b n c : Nat} {A : Option Addr} {w : World} {T : List (List S25)} (h : OwnQ B a b w (.slice A n c) T) : Kd.C (Kd.slice 25 k25) w A T.length T := (Kd.R_reads' (Kd.S_R h.s)).2.2
theorem OwnQ.reads' {B a b n c m : Nat} {A : Option Addr} {w : World} {T : List (List S25)} (h : OwnQ B a b w (.slice A n c) T) (e : T.length = m) : Kd.C (Kd.slice 25 k25) w A m T := e ▸ h.reads
theorem markQ_own {B a b : Nat} {v : Value} {T : List (List S25)} {W w : World} (hW : W.heap.size = B) (hB : Below B W w) (h : OwnQ B a b w v T) (hf : fewQ T) :
  Calls Try.prog 18 #[v, .int .i64 1] w fun e w' => e = .returned (.int .i64 (nQ T 1 T.length : Nat)) ∧ OwnQ B a b w' v (markQ T 1) ∧ Below B W w' ∧ Kept w w' (Itv a b) := by
 subst hW
 refine (markRatioSS_calls (Itv a b) v T 1 W w hB h.s (fewQ_n hf)).mono ?_
 rintro e w' ⟨h1, h2, h3, h4⟩
 exact ⟨h1, ⟨h2, h.lo, Nat.le_trans h.hi h4.1⟩, h3, h4⟩
/-- What is only read, and is elder than N. -/
structure Old {α : Type} (d : Kd α) (N : Nat) (w : World) (A : Option Addr) (T : List α) : Prop where
 f : Kd.F d w (fun k => k < N) A T.length T
 hi : N ≤ w.heap.size
theorem Old.new {α : Type} {d : Kd α} (hd : Kd.Heap d) {w : World} {A : Option Addr} {T : List α} (h : d.C w A T.length T) : Old d w.heap.size w A T := ⟨Kd.C_F hd h, Nat.le_refl _⟩
theorem Old.below {α : Type} {d : Kd α} {N : Nat} {w w' : World} {A : Option Addr} {T : List α} (h : Old d N w A T) (hb : Below w.heap.size w w') : Old d N w' A T := ⟨Kd.F_below h.f hb, Nat.le_trans h.hi hb.size⟩
theorem Old.kept {α : Type} {d : Kd α} {N a b : Nat} {w w' : World} {A : Option Addr} {T : List α} (h : Old d N w A T) (hk : Kept w w' (Itv a b)) (ha : N ≤ a) : Old d N w' A T := ⟨Kd.F_kept h.f hk (fun k hk h2 => by have := h2.1; omega), Nat.le_trans h.hi hk.1⟩
theorem Old.reads {α : Type} {d : Kd α} {N : Nat} {w : World} {A : Option Addr} {T : List α} (h : Old d N w A T) : d.C w A T.length T := Kd.F_now h.f
/-- A value that is only read comes back, and whether it counts. -/
def RetC {α : Type} (d : Kd α) (w : World) (T : List α) (b : Bool) (e : Ending) (w' : World) : Prop := ∃ A c, e = .returned (.tuple #[.slice A T.length c, .bool b]) ∧ T.length ≤ c ∧ d.C w' A T.length T ∧ Below w.heap.size w w'
def RetQQ (w : World) (T : List (List S25)) (b : Bool) (e : Ending) (w' : World) : Prop := ∃ v0_ : Value, e = .returned (.tuple #[v0_, .bool b]) ∧ Kd.S (Kd.slice 25 k25) 53 w' w.heap.size (fun _ => True) v0_ T ∧ Below w.heap.size w w'
end Go.Proofs.Ytkiloimggmpggaa.L

namespace Go.Proofs.Ytkiloimggmpggaa.L
open Go.RowKit Go.Proofs.Ytkiloimggmpggaa Go.Proofs.Ytkiloimggmpggaa.P Go.Proofs.YtkiloimggmpggaaW.PrintWords Go.Proofs.YtkiloimggmpggaaW.PrintLast Go.Proofs.YtkiloimggmpggaaW.PrintMore
theorem heap_Q : Kd.Heap (Kd.slice 25 k25) := Kd.heap_slice _ (show Kd.Heap k25 from Kd.heap_iso _ (Kd.heap_pair (Kd.heap_int _) (Kd.heap_int _)))
end Go.Proofs.Ytkiloimggmpggaa.L
namespace Go.Proofs.Ytkiloimggmpggaa.Law
open Go.RowKit Go.Proofs.Ytkiloimggmpggaa Go.Proofs.Ytkiloimggmpggaa.P Go.Proofs.Ytkiloimggmpggaa.L Go.Proofs.YtkiloimggmpggaaW.PrintWords Go.Proofs.YtkiloimggmpggaaW.PrintLast Go.Proofs.YtkiloimggmpggaaW.PrintMore
set_option linter.unusedVariables false
set_option linter.unusedSimpArgs false

set_option maxHeartbeats 8000000 in
set_option maxRecDepth 100000 in
theorem walkCondenseSteps (A : Option Addr) (cap : Nat) (l : List (List Int)) (a1 : Int) (r : List (List S25)) (b : Bool) (W : World) (h : RowsIn W A l.length cap l) (hl : fewRows l) (hr : fewQ r) (t : Int) (ht : ¬ t < 0) (k0 : Nat) (hsz : laws_szIntSS.f k0 l 1048576 = some t)
  (hspec : ∀ (W' : World) (A' : Option Addr) (c' : Nat), Kd.C (Kd.slice 3 (Kd.int .i64)) W' A' l.length l → l.length ≤ c' → Calls Try.prog 14 #[.slice A' l.length c', .int .i64 a1] W' (RetC (Kd.slice 25 k25) W' r b))
  (himpl : ∀ (W' : World) (A' : Option Addr) (c' : Nat), Kd.C (Kd.slice 3 (Kd.int .i64)) W' A' l.length l → l.length ≤ c' → Calls Try.prog 15 #[.slice A' l.length c', .int .i64 a1] W' (RetQQ W' r b)) :
  Calls Try.prog 5 #[.slice A l.length cap, .int .i64 a1] W fun e w' => e = .returned (.bool true) ∧ Below W.heap.size W w' := by
 have HC := Aside0.mk h.read
 have HLE := Aside0.mk h.le
 have HFL := Aside0.mk hl
 have HFR := Aside0.mk hr
 have HSP := Aside0.mk hspec
 have HIM := Aside0.mk himpl
 have HB := Aside0.mk (Below.refl W.heap.size W)
 have htd : decide (t < 0) = false := decide_eq_false ht
 obtain ⟨ke, hke⟩ := (eqIntSS l hl.ok).rounds
 obtain ⟨kr, hkr⟩ := (eqRatioSS_ev r hr).rounds
 obtain ⟨kh, hkh⟩ := (heldRatioSS_ev r 1 (by have := hr.1; omega) (fewQ_n hr)).rounds
 have HSZ := Aside0.mk (fun W' hb => laws_szIntSS.calls k0 A cap l 1048576 t W' (Kd.C_below h.read hb) h.le hsz)
 have HTO := Aside0.mk (fun W' hb => laws_toIntSS.calls A cap l l W' (Kd.C_below h.read hb) h.le (toIntSS_eq l hl.ok))
 have HEL := Aside0.mk (fun W' A0 c0 A1 c1 h0 g0 h1 g1 => laws_eqIntSS.calls ke A0 c0 l A1 c1 l true W' h0 g0 h1 g1 hke)
 have HER := Aside0.mk (fun W' A0 c0 A1 c1 h0 g0 h1 g1 => laws_eqRatioSS.calls kr A0 c0 r A1 c1 r true W' h0 g0 h1 g1 hkr)
 have HHE := Aside0.mk (fun W' A0 c0 h0 g0 => laws_heldRatioSS.calls kh A0 c0 (markQ r 1) 1 (nQ r 1 r.length : Nat) W' h0 g0 hkh)
 have HMX := Aside0.mk (fun (a b : Nat) (v : Value) (w : World) (hB : Below W.heap.size W w) (ho : Own W.heap.size a b w v l) => mark_own rfl hB ho hl)
 have HMG := Aside0.mk (fun (a b : Nat) (v : Value) (w : World) (hB : Below W.heap.size W w) (ho : OwnQ W.heap.size a b w v r) => markQ_own rfl hB ho hr)
 have hnl : ¬ ((nTo l 1 l.length : Nat) : Int) < 0 := by omega
 have hnr : ¬ ((nQ r 1 r.length : Nat) : Int) < 0 := by omega
 have hml : (markQ r 1).length = r.length := markQS_length _ _ _
 obtain ⟨nl, hnle⟩ : ∃ n, n = nTo l 1 l.length := ⟨_, rfl⟩
 obtain ⟨nr, hnre⟩ : ∃ n, n = nQ r 1 r.length := ⟨_, rfl⟩
 rw [← hnle] at HMX hnl
 rw [← hnre] at HMG HHE hnr
 rw [hml] at HHE
 obtain ⟨mr, hmr⟩ : ∃ m, m = markQ r 1 := ⟨_, rfl⟩
 rw [← hmr] at HMG HHE hml
 obtain ⟨ml, hmle⟩ : ∃ m, m = markT l 1 := ⟨_, rfl⟩
 rw [← hmle] at HMX
 have HML := Aside0.mk hml
 clear h hl hr ht hsz hspec himpl hke hkr hkh hnle hnre hmr hmle hml
 go_enter Try.func5, Try.ntmps5
 go_wp2_with (first
  | (go_at_call 6; refine (HSZ.out _ HB.out).mono ?_; rintro e w1 ⟨rfl, hd⟩; have hb := hd.below; clear hd; (try (have n_ := Aside0.mk (HW.out.below hb); clear HW; have HW := n_)); (try (have n_ := Aside0.mk (HX.out.below hb); clear HX; have HX := n_)); (try (have n_ := Aside0.mk (HG.out.below hb); clear HG; have HG := n_)); (try (have n_ := Aside0.mk (HT.out.below hb); clear HT; have HT := n_)); (try (have n_ := Aside0.mk (HG1.out.below hb); clear HG1; have HG1 := n_)); (have n_ := Aside0.mk (below_step HB.out hb)); clear HB; have HB := n_; clear hb)
  | (go_at_call 8; refine (HTO.out _ HB.out).mono ?_; rintro e w1 ⟨v, rfl, hS, hb⟩; have ho := Own.new hS HB.out.size; clear hS; obtain ⟨Av, cv, rfl, hcv⟩ := ho.slice; (try clear HT HTc); (try clear HDT); (try have HDT := Aside0.mk HW.out.hi); (try (have n_ := Aside0.mk (HW.out.below hb); clear HW; have HW := n_)); (try (have n_ := Aside0.mk (HX.out.below hb); clear HX; have HX := n_)); (try (have n_ := Aside0.mk (HG.out.below hb); clear HG; have HG := n_)); (try (have n_ := Aside0.mk (HT.out.below hb); clear HT; have HT := n_)); (try (have n_ := Aside0.mk (HG1.out.below hb); clear HG1; have HG1 := n_)); (have n_ := Aside0.mk (below_step HB.out hb)); clear HB; have HB := n_; clear hb; have HT := Aside0.mk ho; have HTc := Aside0.mk hcv; clear ho hcv)
  | (go_at_call 14; refine (HSP.out _ _ _ HT.out.reads HTc.out).mono ?_; rintro e w1 ⟨Aw, cw, rfl, hcw, hC, hb⟩; clear HT HTc; (try (have n_ := Aside0.mk (HW.out.below hb); clear HW; have HW := n_)); (try (have n_ := Aside0.mk (HX.out.below hb); clear HX; have HX := n_)); (try (have n_ := Aside0.mk (HG.out.below hb); clear HG; have HG := n_)); (try (have n_ := Aside0.mk (HT.out.below hb); clear HT; have HT := n_)); (try (have n_ := Aside0.mk (HG1.out.below hb); clear HG1; have HG1 := n_)); (have n_ := Aside0.mk (below_step HB.out hb)); clear HB; have HB := n_; clear hb; have HW := Aside0.mk (Old.new heap_Q hC); have HWc := Aside0.mk hcw; clear hC hcw)
  | (go_at_call 15; have hg_ := HG; clear hg_; refine (HIM.out _ _ _ HT.out.reads HTc.out).mono ?_; rintro e w1 ⟨v, rfl, hS, hb⟩; have ho := OwnQ.new hS HB.out.size; clear hS; obtain ⟨Ah, ch, rfl, hch⟩ := ho.slice; clear HT HTc; (try (have n_ := Aside0.mk (HW.out.below hb); clear HW; have HW := n_)); (try (have n_ := Aside0.mk (HX.out.below hb); clear HX; have HX := n_)); (try (have n_ := Aside0.mk (HG.out.below hb); clear HG; have HG := n_)); (try (have n_ := Aside0.mk (HT.out.below hb); clear HT; have HT := n_)); (try (have n_ := Aside0.mk (HG1.out.below hb); clear HG1; have HG1 := n_)); (have n_ := Aside0.mk (below_step HB.out hb)); clear HB; have HB := n_; clear hb; have HG1 := Aside0.mk ho; have HG1c := Aside0.mk hch; clear ho hch)
  | (go_at_call 15; refine (HIM.out _ _ _ HT.out.reads HTc.out).mono ?_; rintro e w1 ⟨v, rfl, hS, hb⟩; have ho := OwnQ.new hS HB.out.size; clear hS; obtain ⟨Ag, cg, rfl, hcg⟩ := ho.slice; have HD12 := HDT; have HD23 := Aside0.mk HT.out.hi; have HD13 := Aside0.mk HW.out.hi; clear HDT; have HX := HT; have HXc := HTc; clear HT HTc; (try (have n_ := Aside0.mk (HW.out.below hb); clear HW; have HW := n_)); (try (have n_ := Aside0.mk (HX.out.below hb); clear HX; have HX := n_)); (try (have n_ := Aside0.mk (HG.out.below hb); clear HG; have HG := n_)); (try (have n_ := Aside0.mk (HT.out.below hb); clear HT; have HT := n_)); (try (have n_ := Aside0.mk (HG1.out.below hb); clear HG1; have HG1 := n_)); (have n_ := Aside0.mk (below_step HB.out hb)); clear HB; have HB := n_; clear hb; have HG := Aside0.mk ho; have HGc := Aside0.mk hcg; clear ho hcg)
  | (go_at_call 16; (first | (with_reducible refine (HER.out _ _ _ _ _ HG.out.reads HGc.out HW.out.reads HWc.out).mono ?_) | (with_reducible refine (HER.out _ _ _ _ _ HG1.out.reads HG1c.out HW.out.reads HWc.out).mono ?_)); rintro e w1 ⟨rfl, hd⟩; have hb := hd; clear hd; (try (have n_ := Aside0.mk (HW.out.below hb); clear HW; have HW := n_)); (try (have n_ := Aside0.mk (HX.out.below hb); clear HX; have HX := n_)); (try (have n_ := Aside0.mk (HG.out.below hb); clear HG; have HG := n_)); (try (have n_ := Aside0.mk (HT.out.below hb); clear HT; have HT := n_)); (try (have n_ := Aside0.mk (HG1.out.below hb); clear HG1; have HG1 := n_)); (have n_ := Aside0.mk (below_step HB.out hb)); clear HB; have HB := n_; clear hb)
  | (go_at_call 11; (with_reducible refine (HEL.out _ _ _ _ _ HX.out.reads HXc.out HT.out.reads HTc.out).mono ?_); rintro e w1 ⟨rfl, hd⟩; have hb := hd.below; clear hd; (try (have n_ := Aside0.mk (HW.out.below hb); clear HW; have HW := n_)); (try (have n_ := Aside0.mk (HX.out.below hb); clear HX; have HX := n_)); (try (have n_ := Aside0.mk (HG.out.below hb); clear HG; have HG := n_)); (try (have n_ := Aside0.mk (HT.out.below hb); clear HT; have HT := n_)); (try (have n_ := Aside0.mk (HG1.out.below hb); clear HG1; have HG1 := n_)); (have n_ := Aside0.mk (below_step HB.out hb)); clear HB; have HB := n_; clear hb)
  | (go_at_call 17; (with_reducible refine (HMX.out _ _ _ _ HB.out HX.out).mono ?_); rintro e w1 ⟨rfl, ho, hb, hk⟩; have n1_ := Aside0.mk (HW.out.kept hk HD12.out); have n2_ := Aside0.mk (HG.out.kept hk (.inr HD23.out)); clear HW HG HX HXc HB ho hk HT HTc HEL; have HW := n1_; have HG := n2_; have HB := Aside0.mk hb; clear n1_ n2_ hb)
  | (go_at_call 18; (with_reducible refine (HMG.out _ _ _ _ HB.out HG.out).mono ?_); rintro e w1 ⟨rfl, ho, hb, hk⟩; have n1_ := Aside0.mk (HW.out.kept hk HD13.out); clear HW HG HB hk; have HW := n1_; have HG := Aside0.mk ho; have HB := Aside0.mk hb; clear n1_ hb ho)
  | (go_at_call 19; (with_reducible refine (HHE.out _ _ _ (HG.out.reads' HML.out) HGc.out).mono ?_); rintro e w1 ⟨rfl, hd⟩; have hb := hd.below; clear hd; (try (have n_ := Aside0.mk (HW.out.below hb); clear HW; have HW := n_)); (try (have n_ := Aside0.mk (HX.out.below hb); clear HX; have HX := n_)); (try (have n_ := Aside0.mk (HG.out.below hb); clear HG; have HG := n_)); (try (have n_ := Aside0.mk (HT.out.below hb); clear HT; have HT := n_)); (try (have n_ := Aside0.mk (HG1.out.below hb); clear HG1; have HG1 := n_)); (have n_ := Aside0.mk (below_step HB.out hb)); clear HB; have HB := n_; clear hb))
 go_ret
 exact ⟨rfl, HB.out⟩
theorem skipCondenseSteps (A : Option Addr) (cap : Nat) (l : List (List Int)) (a1 : Int) (W : World) (h : RowsIn W A l.length cap l) (t : Int) (ht : t < 0) (k0 : Nat) (hsz : laws_szIntSS.f k0 l 1048576 = some t) :
  Calls Try.prog 5 #[.slice A l.length cap, .int .i64 a1] W fun e w' => e = .returned (.bool true) ∧ Below W.heap.size W w' := by
 have HSZ := Aside0.mk (laws_szIntSS.calls k0 A cap l 1048576 t W h.read h.le hsz)
 have htd : decide (t < 0) = true := decide_eq_true ht
 clear h hsz
 go_enter Try.func5, Try.ntmps5
 go_wp2_with (go_at_call 6; refine HSZ.out.mono ?_; rintro e w1 ⟨rfl, hd⟩; have hb := hd.below; clear hd)
 go_ret
 exact ⟨rfl, hb⟩
/-- The law, out of the two functions' contracts. -/
theorem lawCondenseSteps (A : Option Addr) (cap : Nat) (l : List (List Int)) (a1 : Int) (W : World) (h : RowsIn W A l.length cap l)
  (hboth : fewRows l → ∃ (r : List (List S25)) (b : Bool), fewQ r ∧
   (∀ (W' : World) (A' : Option Addr) (c' : Nat), Kd.C (Kd.slice 3 (Kd.int .i64)) W' A' l.length l → l.length ≤ c' → Calls Try.prog 14 #[.slice A' l.length c', .int .i64 a1] W' (RetC (Kd.slice 25 k25) W' r b)) ∧
   (∀ (W' : World) (A' : Option Addr) (c' : Nat), Kd.C (Kd.slice 3 (Kd.int .i64)) W' A' l.length l → l.length ≤ c' → Calls Try.prog 15 #[.slice A' l.length c', .int .i64 a1] W' (RetQQ W' r b))) :
  Calls Try.prog 5 #[.slice A l.length cap, .int .i64 a1] W fun e w' => e = .returned (.bool true) ∧ Below W.heap.size W w' := by
 obtain ⟨t, ht, hd⟩ := szIntSS_in h
 obtain ⟨k, hk⟩ := ht.rounds
 by_cases hn : t < 0
 ·exact skipCondenseSteps A cap l a1 W h t hn k hk
 ·have hf := hd.resolve_left hn
  obtain ⟨r, b, hr, h1, h2⟩ := hboth hf
  exact walkCondenseSteps A cap l a1 r b W h hf hr t hn k hk h1 h2
end Go.Proofs.Ytkiloimggmpggaa.Law

namespace Go.Proofs.Ytkiloimggmpggaa.P
open Go.RowKit Go.Proofs.YtkiloimggmpggaaW.PrintWords Go.Proofs.YtkiloimggmpggaaW.PrintLast Go.Proofs.YtkiloimggmpggaaW.PrintMore
attribute [local go_sem] max2_int min2_int max_two min_two max_three min_three max_four min_four   -- for this text's walks alone
set_option linter.unusedVariables false
set_option linter.unusedSimpArgs false

def spec_CondenseSteps.f (k : Nat) (l0 : List (List Int)) (a1 : Int) : Option ((List (List (S25))) × Bool) := (spec_weTable.f k l0).bind fun t323 => (if t323 = true then ((spec_l1In.f a1 0 3).bind fun t324 => (if t324 = true then ((spec_weSteps.f l0 a1).bind fun t325 => (some (t325, true))) else (some (([] : List (List (S25))), false)))) else (some (([] : List (List (S25))), false)))
set_option maxHeartbeats 8000000 in
set_option maxRecDepth 100000 in
theorem spec_CondenseSteps.calls (k : Nat) (A0 : Option Addr) (c0 : Nat) (l0 : List (List Int)) (a1 : Int) (r1 : List (List (S25))) (r2 : Bool) (w : World) (hr0 : Kd.C (Kd.slice 3 (Kd.int .i64)) w A0 l0.length l0) (hc0 : l0.length ≤ c0) (h : spec_CondenseSteps.f k l0 a1 = some (r1, r2)) :
  Calls Try.prog 14 #[.slice A0 l0.length c0, .int .i64 a1] w fun e w' => ∃ v0_ : Value, e = .returned (.tuple #[v0_, .bool r2]) ∧ Kd.N (Kd.slice 25 k25) 53 w' w.heap.size (fun k_ => (w.heap.size ≤ k_)) v0_ r1 ∧ Below w.heap.size w w' := by
 have HR0 := Aside0.mk hr0
 have HC0 := Aside0.mk hc0
 clear hr0 hc0
 have HB := Aside0.mk (Below.refl w.heap.size w)
 have H : ((spec_weTable.f k l0).bind fun t323 => (if t323 = true then ((spec_l1In.f a1 0 3).bind fun t324 => (if t324 = true then ((spec_weSteps.f l0 a1).bind fun t325 => (some (t325, true))) else (some (([] : List (List (S25))), false)))) else (some (([] : List (List (S25))), false)))) = some (r1, r2) := h
 clear h
 replace H := Option.bind_eq_some_iff.mp H
 obtain ⟨t323, A30, H⟩ := H
 replace H : (if t323 = true then ((spec_l1In.f a1 0 3).bind fun t324 => (if t324 = true then ((spec_weSteps.f l0 a1).bind fun t325 => (some (t325, true))) else (some (([] : List (List (S25))), false)))) else (some (([] : List (List (S25))), false))) = some (r1, r2) := H
 have A3 := Aside0.mk A30
 clear A30
 by_cases c4 : t323 = true
 ·subst c4
  have H1 : ((spec_l1In.f a1 0 3).bind fun t324 => (if t324 = true then ((spec_weSteps.f l0 a1).bind fun t325 => (some (t325, true))) else (some (([] : List (List (S25))), false)))) = some (r1, r2) := by rw [if_pos rfl] at H; exact H
  clear H
  have H := H1
  clear H1
  replace H := Option.bind_eq_some_iff.mp H
  obtain ⟨t324, A50, H⟩ := H
  replace H : (if t324 = true then ((spec_weSteps.f l0 a1).bind fun t325 => (some (t325, true))) else (some (([] : List (List (S25))), false))) = some (r1, r2) := H
  have A5 := Aside0.mk A50
  clear A50
  by_cases c6 : t324 = true
  ·subst c6
   have H1 : ((spec_weSteps.f l0 a1).bind fun t325 => (some (t325, true))) = some (r1, r2) := by rw [if_pos rfl] at H; exact H
   clear H
   have H := H1
   clear H1
   replace H := Option.bind_eq_some_iff.mp H
   obtain ⟨t325, A70, H⟩ := H
   replace H : (some (t325, true)) = some (r1, r2) := H
   have A7 := Aside0.mk A70
   clear A70
   simp only [Option.some.injEq, Prod.mk.injEq] at H
   obtain ⟨rfl, rfl⟩ := H
   go_enter Try.func14, Try.ntmps14
   go_wp2_with (first | ((with_reducible refine gate_callee (f := 21) rfl ?_); refine goesL_ (some 7) rfl rfl Try.func21 (by kernel_rfl) rfl #[.slice A0 l0.length c0] rfl (by (try simp only [List.map_toArray, List.map_cons, List.map_nil]); first | done | rfl | (simp only [List.length_drop, List.length_take]; rfl)) ?_; (with_reducible refine (spec_weTable.calls k _ _ l0 true _ ?side1 ?side2 A3.out).mono ?_); (case side1 => repeat (first | exact HR0.out | (with_reducible refine Kd.C_alloc ?_ _) | (with_reducible refine Kd.C_drewN ?_ _) | (with_reducible refine Kd.C_drew ?_))); (case side2 => exact HC0.out); rintro e w' ⟨rfl, ⟨nd, rfl⟩⟩; refine ⟨_, rfl, ?_⟩) | (go_at_call 22; (with_reducible refine (spec_l1In.calls a1 0 3 true _ A5.out).mono ?_); rintro e w' ⟨rfl, ⟨nd, rfl⟩⟩) | ((with_reducible refine gate_callee (f := 40) rfl ?_); refine goesL_ (some 16) rfl rfl Try.func40 (by kernel_rfl) rfl #[.slice A0 l0.length c0, .int .i64 a1] rfl (by (try simp only [List.map_toArray, List.map_cons, List.map_nil]); first | done | rfl | (simp only [List.length_drop, List.length_take]; rfl)) ?_; (with_reducible refine (spec_weSteps.calls _ _ l0 a1 t325 _ ?side1 ?side2 A7.out).mono ?_); (case side1 => repeat (first | exact HR0.out | (with_reducible refine Kd.C_alloc ?_ _) | (with_reducible refine Kd.C_drewN ?_ _) | (with_reducible refine Kd.C_drew ?_))); (case side2 => exact HC0.out); rintro e w8 ⟨v326, rfl, ho0, hb⟩; refine ⟨_, rfl, ?_⟩; have n0_ := Aside0.mk (Kd.N_lower (Kd.N_mono (ok' := fun k_ => (w.heap.size ≤ k_)) ho0 (fun k_ hk_ => (Nat.le_trans (below_size (by repeat (first | (with_reducible first | exact HB.out | apply below_alloc | apply pw_below_drewN | apply below_drew1) | exact HB.out))) hk_))) (below_size (by repeat (first | (with_reducible first | exact HB.out | apply below_alloc | apply pw_below_drewN | apply below_drew1) | exact HB.out)))); have n1_ := Aside0.mk (below_step (by repeat (first | (with_reducible first | exact HB.out | apply below_alloc | apply pw_below_drewN | apply below_drew1) | exact HB.out)) hb); clear HB; have HO327 := n0_; have HB := n1_; clear n0_ n1_; (try clear hb); (try clear hb2); (try clear hk); (try clear hi); (try clear ho0)))
   go_ret2
   exact ⟨_, by first | rfl | (simp [errW_none, errW_some] <;> rfl) | (simp [*, errW_none, errW_some] <;> rfl), by (with_reducible repeat (first | apply Kd.N_alloc | apply Kd.N_drewN | apply Kd.N_drew)); exact HO327.out, by repeat (first | (with_reducible first | exact HB.out | apply below_alloc | apply pw_below_drewN | apply below_drew1) | exact HB.out)⟩
  ·replace c6 := Bool.eq_false_iff.mpr c6
   subst c6
   have H1 : (some (([] : List (List (S25))), false)) = some (r1, r2) := by rw [if_neg (show ¬ (false = true) by decide)] at H; exact H
   clear H
   have H := H1
   clear H1
   simp only [Option.some.injEq, Prod.mk.injEq] at H
   obtain ⟨rfl, rfl⟩ := H
   go_enter Try.func14, Try.ntmps14
   go_wp2_with (first | ((with_reducible refine gate_callee (f := 21) rfl ?_); refine goesL_ (some 7) rfl rfl Try.func21 (by kernel_rfl) rfl #[.slice A0 l0.length c0] rfl (by (try simp only [List.map_toArray, List.map_cons, List.map_nil]); first | done | rfl | (simp only [List.length_drop, List.length_take]; rfl)) ?_; (with_reducible refine (spec_weTable.calls k _ _ l0 true _ ?side1 ?side2 A3.out).mono ?_); (case side1 => repeat (first | exact HR0.out | (with_reducible refine Kd.C_alloc ?_ _) | (with_reducible refine Kd.C_drewN ?_ _) | (with_reducible refine Kd.C_drew ?_))); (case side2 => exact HC0.out); rintro e w' ⟨rfl, ⟨nd, rfl⟩⟩; refine ⟨_, rfl, ?_⟩) | (go_at_call 22; (with_reducible refine (spec_l1In.calls a1 0 3 false _ A5.out).mono ?_); rintro e w' ⟨rfl, ⟨nd, rfl⟩⟩))
   go_ret2
   exact ⟨_, by first | rfl | (simp [errW_none, errW_some] <;> rfl) | (simp [*, errW_none, errW_some] <;> rfl), by first | exact Kd.S_nil _ _ _ _ _ | exact Kd.N_nil _ _ _ _ _ | exact Kd.V_nil _ _ _ _ _ | exact Kd.Q_nil _ _ _ _ _ | exact Kd.R_nil _ _ _ _ _, by repeat (first | (with_reducible first | exact HB.out | apply below_alloc | apply pw_below_drewN | apply below_drew1) | exact HB.out)⟩
 ·replace c4 := Bool.eq_false_iff.mpr c4
  subst c4
  have H1 : (some (([] : List (List (S25))), false)) = some (r1, r2) := by rw [if_neg (show ¬ (false = true) by decide)] at H; exact H
  clear H
  have H := H1
  clear H1
  simp only [Option.some.injEq, Prod.mk.injEq] at H
  obtain ⟨rfl, rfl⟩ := H
  go_enter Try.func14, Try.ntmps14
  go_wp2_with (first | ((with_reducible refine gate_callee (f := 21) rfl ?_); refine goesL_ (some 7) rfl rfl Try.func21 (by kernel_rfl) rfl #[.slice A0 l0.length c0] rfl (by (try simp only [List.map_toArray, List.map_cons, List.map_nil]); first | done | rfl | (simp only [List.length_drop, List.length_take]; rfl)) ?_; (with_reducible refine (spec_weTable.calls k _ _ l0 false _ ?side1 ?side2 A3.out).mono ?_); (case side1 => repeat (first | exact HR0.out | (with_reducible refine Kd.C_alloc ?_ _) | (with_reducible refine Kd.C_drewN ?_ _) | (with_reducible refine Kd.C_drew ?_))); (case side2 => exact HC0.out); rintro e w' ⟨rfl, ⟨nd, rfl⟩⟩; refine ⟨_, rfl, ?_⟩))
  go_ret2
  exact ⟨_, by first | rfl | (simp [errW_none, errW_some] <;> rfl) | (simp [*, errW_none, errW_some] <;> rfl), by first | exact Kd.S_nil _ _ _ _ _ | exact Kd.N_nil _ _ _ _ _ | exact Kd.V_nil _ _ _ _ _ | exact Kd.Q_nil _ _ _ _ _ | exact Kd.R_nil _ _ _ _ _, by repeat (first | (with_reducible first | exact HB.out | apply below_alloc | apply pw_below_drewN | apply below_drew1) | exact HB.out)⟩

end Go.Proofs.Ytkiloimggmpggaa.P
