/- Texts of one chain, in build order. -/
import Derived.Test.YthbkjaieenochaaYSignsWithPattern7
namespace Go.Proofs.Ythbkjaieenochaa.L
open Go.RowKit Go.Proofs.Ythbkjaieenochaa Go.Proofs.Ythbkjaieenochaa.P Go.Proofs.YthbkjaieenochaaW.PrintWords Go.Proofs.YthbkjaieenochaaW.PrintLast Go.Proofs.YthbkjaieenochaaW.PrintMore

theorem wrapS (i : Nat) (h : i < 9223372036854775807) : wrap64 ((i : Int) + 1) = ((i + 1 : Nat) : Int) := by unfold wrap64; omega
theorem wrapI (i : Int) (h0 : -9223372036854775808 ≤ i) (h : i ≤ 9223372036854775807) : wrap64 i = i := by unfold wrap64; omega
theorem rd_at (l : List Int) (i : Nat) (h : i < l.length) : rd l (i : Int) = l[i] := by simp [rd, List.getD_eq_getElem?_getD, h]
theorem rd1_at (l : List (List Int)) (i : Nat) (h : i < l.length) : rd_L1 l (i : Int) = l[i] := by simp [rd_L1, List.getD_eq_getElem?_getD, h]
theorem rd1_get (l : List (List Int)) (i : Nat) : rd_L1 l (i : Int) = l.getD i [] := by simp [rd_L1]
theorem Ev.ite_pos {α : Type} {c : Prop} [Decidable c] {a b : Nat → Option α} {r : α} (h : c) (k : Ev a r) : Ev (fun n => if c then a n else b n) r := by
 simp only [if_pos h]; exact k
theorem Ev.ite_neg {α : Type} {c : Prop} [Decidable c] {a b : Nat → Option α} {r : α} (h : ¬ c) (k : Ev b r) : Ev (fun n => if c then a n else b n) r := by
 simp only [if_neg h]; exact k
theorem Ev.some_bind {α β : Type} {o : Option α} {a : α} {f : Nat → α → Option β} {r : β} (h : o = some a) (k : Ev (fun n => f n a) r) : Ev (fun n => o.bind (f n)) r := by
 subst h; simp only [Option.bind_some]; exact k
theorem eqIntS_l0 (l : List Int) (hl : l.length ≤ 17592186044416) : ∀ (d i : Nat), i + d = l.length → Ev (fun k => laws_eqIntS.l0 k l l i) true := by
 intro d
 induction d with
 | zero =>
  intro i hi
  refine Ev.step (fun k => by rw [laws_eqIntS.l0]) ?_
  exact Ev.ite_neg (by omega) (Ev.now _)
 | succ d ih =>
  intro i hi
  refine Ev.step (fun k => by rw [laws_eqIntS.l0]) ?_
  refine Ev.ite_pos (by omega) (Ev.ite_pos (by omega) (Ev.ite_pos (by omega) (Ev.ite_pos rfl ?_)))
  rw [wrapS i (by omega)]
  exact ih (i + 1) (by omega)
theorem eqIntS (l : List Int) (hl : l.length ≤ 17592186044416) : Ev (fun k => laws_eqIntS.f k l l) true := by
 unfold laws_eqIntS.f
 exact Ev.ite_pos rfl (eqIntS_l0 l hl l.length 0 (by omega))
theorem eqIntSS_l0 (l : List (List Int)) (hl : rowsOk l) : ∀ (d i : Nat), i + d = l.length → Ev (fun k => laws_eqIntSS.l0 k l l i) true := by
 have hl1 := hl.1
 intro d
 induction d with
 | zero =>
  intro i hi
  refine Ev.step (fun k => by rw [laws_eqIntSS.l0]) ?_
  exact Ev.ite_neg (by omega) (Ev.now _)
 | succ d ih =>
  intro i hi
  refine Ev.step (fun k => by rw [laws_eqIntSS.l0]) ?_
  refine Ev.ite_pos (by omega) (Ev.ite_pos (by omega) (Ev.ite_pos (by omega) (Ev.bind (eqIntS _ (by rw [rd1_get]; exact hl.at_ i)) (Ev.ite_pos rfl ?_))))
  rw [wrapS i (by omega)]
  exact ih (i + 1) (by omega)
theorem eqIntSS (l : List (List Int)) (hl : rowsOk l) : Ev (fun k => laws_eqIntSS.f k l l) true := by
 unfold laws_eqIntSS.f
 exact Ev.ite_pos rfl (eqIntSS_l0 l hl l.length 0 (by omega))
theorem toIntS_eq (l : List Int) (hl : l.length ≤ 17592186044416) : laws_toIntS.f l = some l := by
 unfold laws_toIntS.f
 rw [if_pos hl]

/-- Few rows, and short ones. -/
def fewRows (l : List (List Int)) : Prop := l.length ≤ 1048576 ∧ ∀ r ∈ l, r.length ≤ 1048576
theorem fewRows.ok {l : List (List Int)} (h : fewRows l) : rowsOk l := ⟨by have := h.1; omega, fun r hr => by have := h.2 r hr; omega⟩
end Go.Proofs.Ythbkjaieenochaa.L

namespace Go.Proofs.Ythbkjaieenochaa.L
open Go.RowKit Go.Proofs.Ythbkjaieenochaa Go.Proofs.Ythbkjaieenochaa.P Go.Proofs.YthbkjaieenochaaW.PrintWords Go.Proofs.YthbkjaieenochaaW.PrintLast Go.Proofs.YthbkjaieenochaaW.PrintMore
set_option linter.unusedVariables false

/-- A row numbered from n on. -/
def numR (len : Nat) (n : Nat) : List Int := (List.range len).map fun i => ((n + i : Nat) : Int)
theorem numR_length (len n : Nat) : (numR len n).length = len := by simp [numR]
theorem numR_at (len n i : Nat) (h : i < len) : rd (numR len n) (i : Int) = ((n + i : Nat) : Int) := by rw [rd_at _ _ (by rw [numR_length]; exact h)]; simp [numR]
/-- A row of which the first i are numbered. -/
def numS (l : List Int) (n i : Nat) : List Int := numR i n ++ l.drop i
theorem numS_length (l : List Int) (n i : Nat) (h : i ≤ l.length) : (numS l n i).length = l.length := by simp [numS, numR_length]; omega
theorem numS_set (l : List Int) (n i : Nat) (h : i < l.length) : (numS l n i).set i ((n + i : Nat) : Int) = numS l n (i + 1) := by
 unfold numS
 rw [List.set_append, if_neg (by rw [numR_length]; omega), numR_length, Nat.sub_self, List.drop_eq_getElem_cons h, List.set_cons_zero]
 simp [numR, List.range_succ]
theorem markIntS_l0 (l : List Int) (n : Nat) (hn : n + l.length ≤ 4611686018427387904) : ∀ (d i : Nat), i + d = l.length → Ev (fun k => laws_markIntS.l0 k (numS l n i) ((n + i : Nat) : Int) i) (((n + l.length : Nat) : Int), numR l.length n) := by
 intro d
 induction d with
 | zero =>
  intro i hi
  refine Ev.step (fun k => by rw [laws_markIntS.l0]) ?_
  rw [numS_length l n i (by omega)]
  have e : i = l.length := by omega
  subst e
  refine Ev.ite_neg (by omega) ?_
  unfold numS
  rw [List.drop_length, List.append_nil]
  exact Ev.now _
 | succ d ih =>
  intro i hi
  refine Ev.step (fun k => by rw [laws_markIntS.l0]) ?_
  rw [numS_length l n i (by omega), Int.toNat_natCast, numS_set l n i (by omega), wrapS (n + i) (by omega), wrapS i (by omega)]
  exact Ev.ite_pos (by omega) (Ev.ite_pos (by omega) (ih (i + 1) (by omega)))
theorem markIntS_ev (l : List Int) (n : Nat) (hn : n + l.length ≤ 4611686018427387904) : Ev (fun k => laws_markIntS.f k l n) (((n + l.length : Nat) : Int), numR l.length n) := by
 have := markIntS_l0 l n hn l.length 0 (by omega)
 simpa [numS, numR, laws_markIntS.f] using this
/-- The number with which row i begins. -/
def nTo (T : List (List Int)) (n : Nat) : Nat → Nat
 | 0 => n
 | i + 1 => nTo T n i + (T.getD i []).length
theorem nTo_mono (T : List (List Int)) (n : Nat) : ∀ (d i : Nat), nTo T n i ≤ nTo T n (i + d)
 | 0, i => Nat.le_refl _
 | d + 1, i => Nat.le_trans (nTo_mono T n d i) (by show _ ≤ nTo T n (i + d) + _; omega)
/-- The table numbered, and numbered up to row i. -/
def markS (T : List (List Int)) (n i : Nat) : List (List Int) := (List.range T.length).map fun k => if k < i then numR (T.getD k []).length (nTo T n k) else T.getD k []
def markT (T : List (List Int)) (n : Nat) : List (List Int) := markS T n T.length
theorem markS_length (T : List (List Int)) (n i : Nat) : (markS T n i).length = T.length := by simp [markS]
theorem markS_zero (T : List (List Int)) (n : Nat) : markS T n 0 = T := by
 apply List.ext_getElem
 ·exact markS_length _ _ _
 ·intro k h1 h2
  simp [markS, List.getD_eq_getElem?_getD, h2]
theorem markS_get (T : List (List Int)) (n i k : Nat) (h : k < T.length) : (markS T n i).getD k [] = if k < i then numR (T.getD k []).length (nTo T n k) else T.getD k [] := by
 unfold markS
 simp [List.getD_eq_getElem?_getD, h]
theorem markS_set (T : List (List Int)) (n i : Nat) (h : i < T.length) : (markS T n i).set i (numR (T.getD i []).length (nTo T n i)) = markS T n (i + 1) := by
 apply List.ext_getElem
 ·rw [List.length_set, markS_length, markS_length]
 ·intro k h1 h2
  rw [markS_length] at h2
  rw [List.getElem_set]
  simp only [markS, List.getElem_map, List.getElem_range]
  by_cases e : i = k
  ·subst e
   rw [if_pos rfl, if_pos (by omega)]
  ·rw [if_neg e]
   by_cases h3 : k < i
   ·rw [if_pos h3, if_pos (by omega)]
   ·rw [if_neg h3, if_neg (by omega)]
theorem heldIntS_l0 (len n : Nat) (hn : n + len ≤ 4611686018427387904) : ∀ (d i : Nat), i + d = len → Ev (fun k => laws_heldIntS.l0 k (numR len n) ((n + i : Nat) : Int) i) ((n + len : Nat) : Int) := by
 intro d
 induction d with
 | zero =>
  intro i hi
  refine Ev.step (fun k => by rw [laws_heldIntS.l0]) ?_
  rw [numR_length]
  have e : i = len := by omega
  subst e
  exact Ev.ite_neg (by omega) (Ev.now _)
 | succ d ih =>
  intro i hi
  refine Ev.step (fun k => by rw [laws_heldIntS.l0]) ?_
  rw [numR_length, numR_at len n i (by omega), wrapS (n + i) (by omega), wrapS i (by omega)]
  exact Ev.ite_pos (by omega) (Ev.ite_pos (by omega) (Ev.ite_pos rfl (ih (i + 1) (by omega))))
theorem heldIntS_ev (len n : Nat) (hn : n + len ≤ 4611686018427387904) : Ev (fun k => laws_heldIntS.f k (numR len n) n) ((n + len : Nat) : Int) := heldIntS_l0 len n hn len 0 (by omega)
theorem heldIntSS_l0 (T : List (List Int)) (n : Nat) (hl : T.length ≤ 4611686018427387904) (hn : nTo T n T.length ≤ 4611686018427387904) : ∀ (d i : Nat), i + d = T.length → Ev (fun k => laws_heldIntSS.l0 k (markT T n) (nTo T n i) i) ((nTo T n T.length : Nat) : Int) := by
 intro d
 induction d with
 | zero =>
  intro i hi
  refine Ev.step (fun k => by rw [laws_heldIntSS.l0]) ?_
  rw [show (markT T n).length = T.length from markS_length _ _ _]
  have e : i = T.length := by omega
  subst e
  exact Ev.ite_neg (by omega) (Ev.now _)
 | succ d ih =>
  intro i hi
  refine Ev.step (fun k => by rw [laws_heldIntSS.l0]) ?_
  have h1 := nTo_mono T n (T.length - (i + 1)) (i + 1)
  rw [show i + 1 + (T.length - (i + 1)) = T.length by omega] at h1
  rw [show (markT T n).length = T.length from markS_length _ _ _, rd1_get, show (markT T n).getD i [] = numR (T.getD i []).length (nTo T n i) by rw [markT, markS_get T n _ i (by omega), if_pos (by omega)]]
  refine Ev.ite_pos (by omega) (Ev.ite_pos (by omega) (Ev.bind (heldIntS_ev _ _ (by have : nTo T n (i + 1) = nTo T n i + (T.getD i []).length := rfl; omega)) (Ev.ite_neg (by omega) ?_)))
  rw [wrapS i (by omega)]
  exact ih (i + 1) (by omega)
theorem heldIntSS_ev (T : List (List Int)) (n : Nat) (hl : T.length ≤ 4611686018427387904) (hn : nTo T n T.length ≤ 4611686018427387904) : Ev (fun k => laws_heldIntSS.f k (markT T n) n) ((nTo T n T.length : Nat) : Int) := heldIntSS_l0 T n hl hn T.length 0 (by omega)

set_option maxHeartbeats 4000000 in
set_option maxRecDepth 100000 in
theorem markIntSS_calls (P : Nat → Prop) (v : Value) (T : List (List Int)) (n : Nat) (w0 w : World) (hB : Below w0.heap.size w0 w) (hS : Kd.S (Kd.slice 3 (Kd.int .i64)) 28 w w0.heap.size P v T) (hn : nTo T n T.length ≤ 4611686018427387904) :
  Calls Try.prog 13 #[v, .int .i64 n] w fun e w' => e = .returned (.int .i64 (nTo T n T.length : Nat)) ∧ Kd.S (Kd.slice 3 (Kd.int .i64)) 28 w' w0.heap.size P v (markT T n) ∧ Below w0.heap.size w0 w' ∧ Kept w w' P := by
 obtain ⟨A, c, rfl⟩ := Kd.R_slice (Kd.S_R hS)
 have hln := (Kd.R_reads' (Kd.S_R hS)).2.2.2.1
 have HS := Aside0.mk (show Kd.S (Kd.slice 3 (Kd.int .i64)) 28 w w0.heap.size P (.slice A T.length c) (markS T n 0) by rw [markS_zero]; exact hS)
 have HB := Aside0.mk hB
 have HN := Aside0.mk hn
 have HK := Aside0.mk (Kept.refl w P)
 clear hS hB hn
 go_enter Try.func13, Try.ntmps13
 go_wp2
 go_loopg [1, 5] T.length (fun gg s1 s5 wr => ∃ i : Nat, i ≤ T.length ∧ T.length - i ≤ gg ∧ s5 = .int .i64 i ∧ s1 = .int .i64 (nTo T n i : Nat) ∧ Aside0 (Kd.S (Kd.slice 3 (Kd.int .i64)) 28 wr w0.heap.size P (.slice A T.length c) (markS T n i)) ∧ Aside0 (Kept w wr P) ∧ Aside0 (Below w0.heap.size w0 wr))
 case atStart => exact ⟨0, Nat.zero_le _, Nat.le_refl _, rfl, rfl, HS, HK, HB⟩
 case round =>
  clear HS HK HB
  obtain ⟨i, hi, hg, rfl, rfl, HS, HK, HB⟩ := hrel
  by_cases hlt : i < T.length
  ·have hz : (i : Int) < (T.length : Int) := by omega
   obtain ⟨ad, rfl, _⟩ := (Kd.R_reads' (Kd.S_R HS.out)).2.2.2.2 (show 0 < (markS T n i).length by rw [markS_length]; omega)
   obtain ⟨oki, cs, hcl, hM, hcc, hoki, hback⟩ := Kd.S_borrow HS.out ([] : List Int) (i : Int) (by omega) hz
   obtain ⟨u, rfl, hR⟩ := hM
   simp only [Int.toNat_natCast] at hR hcc hback
   rw [markS_get T n i i hlt, if_neg (by omega)] at hR
   have hx := hcc 0 _ rfl
   have hsz : (Kd.slice 3 (Kd.int .i64)).sz = 1 := rfl
   rw [hsz, Nat.mul_one, Nat.add_zero] at hx
   have hle : nTo T n i + (T.getD i []).length ≤ 4611686018427387904 := by
    have h1 := nTo_mono T n (T.length - (i + 1)) (i + 1)
    rw [show i + 1 + (T.length - (i + 1)) = T.length by omega] at h1
    have h2 : nTo T n (i + 1) = nTo T n i + (T.getD i []).length := rfl
    have := HN.out
    omega
   obtain ⟨k, hk⟩ := (markIntS_ev (T.getD i []) (nTo T n i) hle).rounds
   have hR2 : Kd.R (Kd.int .i64) 3 wr w0.heap.size (fun k => u.ownBlock = some k) u (T.getD i []) := Kd.R_flat (fun h => h) hR (fun k h _ => h)
   have hcall := laws_markIntS.calls k (fun k => u.ownBlock = some k) u (T.getD i []) (nTo T n i : Nat) _ _ w0 wr HB.out hR2 hk
   have HOW := Aside0.mk (fun k (h : u.ownBlock = some k) => hR.1 k h)
   have HOK := Aside0.mk hoki
   have HBK := Aside0.mk (fun w1 (hk : Kept wr w1 (fun k => u.ownBlock = some k)) (hb : Below w0.heap.size w0 w1) (h : Kd.R (Kd.int .i64) 3 w1 w0.heap.size (fun k => u.ownBlock = some k ∨ wr.heap.size ≤ k) u (numR (T.getD i []).length (nTo T n i))) =>
    show Kd.S (Kd.slice 3 (Kd.int .i64)) 28 w1 w0.heap.size P (.slice (some ad) T.length c) (markS T n (i + 1)) from by
     have := hback (w1 := w1) (row := u.ownBlock) (x' := numR (T.getD i []).length (nTo T n i)) ⟨hb.os.trans HB.out.os.symm, hb.tape.trans HB.out.tape.symm, hb.output.trans HB.out.output.symm, hk.1, fun k hk1 hk2 => hk.2 k hk1 (fun h => hk2 h.symm)⟩ (fun k h => hR.1 k h) ⟨u, rfl, Kd.R_flat (fun h => h) h (fun k h _ => hR.1 k h)⟩
     rwa [markS_set T n i hlt] at this)
   have HKK := Aside0.mk (fun w1 (hk : Kept wr w1 (fun k => u.ownBlock = some k)) => show Kept w w1 P from HK.out.then_ hk (fun k h => .inl (hoki k (hR.1 k h)).1))
   have hnx : nTo T n (i + 1) = nTo T n i + (T.getD i []).length := rfl
   have HNX := Aside0.mk hnx
   clear hback hR hR2 hcc hk hoki hnx
   go_wp2_with (go_at_call 20; refine hcall.mono ?_; rintro e w1 ⟨rfl, hr, hb, hk⟩; have HS1 := Aside0.mk (HBK.out _ hk hb hr); have HK1 := Aside0.mk (HKK.out _ hk); have HB1 := Aside0.mk hb; clear hr hb hk)
   go_roundg (T.length - (i + 1))
   case measure => omega
   case rel => exact ⟨i + 1, by omega, by omega, by go_num, by rw [HNX.out]; simp [List.getD_eq_getElem?_getD, hlt], HS1, HK1, HB1⟩
  ·have hz : ¬ (i : Int) < (T.length : Int) := by omega
   have e : i = T.length := by omega
   subst e
   go_wp2
   go_ret
   exact ⟨rfl, HS.out, HB.out, HK.out⟩
end Go.Proofs.Ythbkjaieenochaa.L

namespace Go.Proofs.Ythbkjaieenochaa.L
open Go.RowKit Go.Proofs.Ythbkjaieenochaa Go.Proofs.Ythbkjaieenochaa.P Go.Proofs.YthbkjaieenochaaW.PrintWords Go.Proofs.YthbkjaieenochaaW.PrintLast Go.Proofs.YthbkjaieenochaaW.PrintMore
set_option linter.unusedVariables false

/-- The blocks from a up to b. -/
def Itv (a b : Nat) : Nat → Prop := fun k => a ≤ k ∧ k < b
/-- A table that lies in the blocks from a to b alone. -/
structure Own (B a b : Nat) (w : World) (v : Value) (T : List (List Int)) : Prop where
 s : Kd.S (Kd.slice 3 (Kd.int .i64)) 28 w B (Itv a b) v T
 lo : B ≤ a
 hi : b ≤ w.heap.size
theorem Own.new {B : Nat} {w w' : World} {v : Value} {T : List (List Int)} (h : Kd.S (Kd.slice 3 (Kd.int .i64)) 28 w' w.heap.size (fun _ => True) v T) (hB : B ≤ w.heap.size) : Own B w.heap.size w'.heap.size w' v T :=
 ⟨Kd.S_lower (Kd.S_mono (Kd.S_bound h) (fun _ hk => ⟨hk.2.1, hk.2.2.1⟩)) hB, hB, Nat.le_refl _⟩
theorem Own.below {B a b : Nat} {w w' : World} {v : Value} {T : List (List Int)} (h : Own B a b w v T) (hb : Below w.heap.size w w') : Own B a b w' v T :=
 ⟨Kd.S_kept h.s (Kept.of_below hb (fun _ => False)) (fun _ _ h => h), h.lo, Nat.le_trans h.hi hb.size⟩
theorem Own.kept {B a b c d : Nat} {w w' : World} {v : Value} {T : List (List Int)} (h : Own B a b w v T) (hk : Kept w w' (Itv c d)) (hd : b ≤ c ∨ d ≤ a) : Own B a b w' v T :=
 ⟨Kd.S_kept h.s hk (fun k h1 h2 => by have := h1.1; have := h1.2; have := h2.1; have := h2.2; omega), h.lo, Nat.le_trans h.hi hk.1⟩
theorem Own.slice {B a b : Nat} {w : World} {v : Value} {T : List (List Int)} (h : Own B a b w v T) : ∃ A c, v = .slice A T.length c ∧ T.length ≤ c := by
 obtain ⟨A, c, rfl⟩ := Kd.R_slice (Kd.S_R h.s)
 exact ⟨A, c, rfl, (Kd.R_reads' (Kd.S_R h.s)).2.1⟩
theorem Own.reads {B a b n c : Nat} {A : Option Addr} {w : World} {T : List (List Int)} (h : Own B a b w (.slice A n c) T) : Kd.C (Kd.slice 3 (Kd.int .i64)) w A T.length T := (Kd.R_reads' (Kd.S_R h.s)).2.2
theorem Own.reads' {B a b n c m : Nat} {A : Option Addr} {w : World} {T : List (List Int)} (h : Own B a b w (.slice A n c) T) (e : T.length = m) : Kd.C (Kd.slice 3 (Kd.int .i64)) w A m T := e ▸ h.reads
theorem nTo_le (T : List (List Int)) (n M : Nat) (h : ∀ r ∈ T, r.length ≤ M) : ∀ i, nTo T n i ≤ n + i * M
 | 0 => by simp [nTo]
 | i + 1 => by
  have := nTo_le T n M h i
  have h2 : (T.getD i []).length ≤ M := by
   rw [List.getD_eq_getElem?_getD]
   rcases Nat.lt_or_ge i T.length with hi | hi
   ·rw [List.getElem?_eq_getElem hi]; exact h _ (List.getElem_mem hi)
   ·rw [List.getElem?_eq_none hi]; simp
  rw [nTo, Nat.succ_mul]
  omega
end Go.Proofs.Ythbkjaieenochaa.L

namespace Go.Proofs.Ythbkjaieenochaa.L
open Go.RowKit Go.Proofs.Ythbkjaieenochaa Go.Proofs.Ythbkjaieenochaa.P Go.Proofs.YthbkjaieenochaaW.PrintWords Go.Proofs.YthbkjaieenochaaW.PrintLast Go.Proofs.YthbkjaieenochaaW.PrintMore
set_option linter.unusedVariables false

/-- A row as an element, its own elements apart. -/
def apart {α : Type} (e : Nat) (d : Kd α) : Kd (List α) where
 sz := 1
 E := e :: d.E
 K := (Kd.slice e d).K
 M := fun w base ok xs cs => ∃ v, cs = [v] ∧ Kd.S d e w base ok v xs
 K_len := fun h => (Kd.slice e d).K_len h
 K_one := fun h => (Kd.slice e d).K_one h
 K_below := fun hb h => (Kd.slice e d).K_below hb h
 K_of_M := by
  rintro w base ok x cs ⟨v, rfl, h⟩
  exact (Kd.slice e d).K_of_M ⟨v, rfl, Kd.S_R h⟩
 M_mono := by
  rintro w base ok ok' x cs hok ⟨v, rfl, h⟩
  exact ⟨v, rfl, Kd.S_mono h hok⟩
 M_bound := by
  rintro w base ok x cs ⟨v, rfl, h⟩
  exact ⟨v, rfl, Kd.S_bound h⟩
 M_move := by
  rintro w w1 base ok x cs hm ⟨v, rfl, h⟩
  exact ⟨v, rfl, Kd.S_move h hm⟩
 M_lower := by
  rintro w base base' ok x cs hb ⟨v, rfl, h⟩
  exact ⟨v, rfl, Kd.S_lower h hb⟩
/-- Tables whose rows are apart, as elements. -/
def tabK : Kd (List (List Int)) := apart 28 (Kd.slice 3 (Kd.int .i64))
theorem tab_C {w : World} {A : Option Addr} {n : Nat} {L : List (List (List Int))} (h : tabK.C w A n L) : Kd.C (Kd.slice 28 (Kd.slice 3 (Kd.int .i64))) w A n L := Kd.C_imp (d := tabK) (d' := Kd.slice 28 (Kd.slice 3 (Kd.int .i64))) rfl (fun _ _ _ h => h) h

/-- The number with which table i begins. -/
def mTo (L : List (List (List Int))) (n : Nat) : Nat → Nat
 | 0 => n
 | i + 1 => nTo (L.getD i []) (mTo L n i) (L.getD i []).length
theorem mTo_mono (L : List (List (List Int))) (n : Nat) : ∀ (d i : Nat), mTo L n i ≤ mTo L n (i + d)
 | 0, i => Nat.le_refl _
 | d + 1, i => Nat.le_trans (mTo_mono L n d i) (by
  have := nTo_mono (L.getD (i + d) []) (mTo L n (i + d)) (L.getD (i + d) []).length 0
  rw [Nat.zero_add] at this
  exact this)
/-- The tables numbered up to i, and all of them. -/
def markMS (L : List (List (List Int))) (n i : Nat) : List (List (List Int)) := (List.range L.length).map fun k => if k < i then markT (L.getD k []) (mTo L n k) else L.getD k []
def markM (L : List (List (List Int))) (n : Nat) : List (List (List Int)) := markMS L n L.length
theorem markMS_length (L : List (List (List Int))) (n i : Nat) : (markMS L n i).length = L.length := by simp [markMS]
theorem markMS_zero (L : List (List (List Int))) (n : Nat) : markMS L n 0 = L := by
 apply List.ext_getElem
 ·exact markMS_length _ _ _
 ·intro k h1 h2
  simp [markMS, List.getD_eq_getElem?_getD, h2]
theorem markMS_get (L : List (List (List Int))) (n i k : Nat) (h : k < L.length) : (markMS L n i).getD k [] = if k < i then markT (L.getD k []) (mTo L n k) else L.getD k [] := by
 unfold markMS
 simp [List.getD_eq_getElem?_getD, h]
theorem markMS_set (L : List (List (List Int))) (n i : Nat) (h : i < L.length) : (markMS L n i).set i (markT (L.getD i []) (mTo L n i)) = markMS L n (i + 1) := by
 apply List.ext_getElem
 ·rw [List.length_set, markMS_length, markMS_length]
 ·intro k h1 h2
  rw [markMS_length] at h2
  rw [List.getElem_set]
  simp only [markMS, List.getElem_map, List.getElem_range]
  by_cases e : i = k
  ·subst e
   rw [if_pos rfl, if_pos (by omega)]
  ·rw [if_neg e]
   by_cases h3 : k < i
   ·rw [if_pos h3, if_pos (by omega)]
   ·rw [if_neg h3, if_neg (by omega)]

set_option maxHeartbeats 4000000 in
set_option maxRecDepth 100000 in
theorem markIntSSS_calls (P : Nat → Prop) (v : Value) (L : List (List (List Int))) (n : Nat) (w0 w : World) (hB : Below w0.heap.size w0 w) (hS : Kd.S tabK 22 w w0.heap.size P v L) (hn : mTo L n L.length ≤ 4611686018427387904) :
  Calls Try.prog 32 #[v, .int .i64 n] w fun e w' => e = .returned (.int .i64 (mTo L n L.length : Nat)) ∧ Kd.S tabK 22 w' w0.heap.size P v (markM L n) ∧ Below w0.heap.size w0 w' ∧ Kept w w' P := by
 obtain ⟨A, c, rfl⟩ := Kd.R_slice (Kd.S_R hS)
 have hln := (Kd.R_reads' (Kd.S_R hS)).2.2.2.1
 have HS := Aside0.mk (show Kd.S tabK 22 w w0.heap.size P (.slice A L.length c) (markMS L n 0) by rw [markMS_zero]; exact hS)
 have HB := Aside0.mk hB
 have HN := Aside0.mk hn
 have HK := Aside0.mk (Kept.refl w P)
 clear hS hB hn
 go_enter Try.func32, Try.ntmps32
 go_wp2
 go_loopg [1, 5] L.length (fun gg s1 s5 wr => ∃ i : Nat, i ≤ L.length ∧ L.length - i ≤ gg ∧ s5 = .int .i64 i ∧ s1 = .int .i64 (mTo L n i : Nat) ∧ Aside0 (Kd.S tabK 22 wr w0.heap.size P (.slice A L.length c) (markMS L n i)) ∧ Aside0 (Kept w wr P) ∧ Aside0 (Below w0.heap.size w0 wr))
 case atStart => exact ⟨0, Nat.zero_le _, Nat.le_refl _, rfl, rfl, HS, HK, HB⟩
 case round =>
  clear HS HK HB
  obtain ⟨i, hi, hg, rfl, rfl, HS, HK, HB⟩ := hrel
  by_cases hlt : i < L.length
  ·have hz : (i : Int) < (L.length : Int) := by omega
   obtain ⟨ad, rfl, _⟩ := (Kd.R_reads' (Kd.S_R HS.out)).2.2.2.2 (show 0 < (markMS L n i).length by rw [markMS_length]; omega)
   obtain ⟨g, rfl⟩ := Kd.R_head (Kd.S_R HS.out)
   obtain ⟨oki, cs, hcl, hM, hcc, _, hoki, hH⟩ := Kd.S_elem HS.out ([] : List (List Int)) (i : Int) (by omega) hz
   obtain ⟨u, rfl, hR⟩ := hM
   simp only [Int.toNat_natCast] at hR hcc
   rw [markMS_get L n i i hlt, if_neg (by omega)] at hR
   have hx := hcc 0 _ rfl
   have hsz : tabK.sz = 1 := rfl
   rw [hsz, Nat.mul_one, Nat.add_zero] at hx
   have hle : nTo (L.getD i []) (mTo L n i) (L.getD i []).length ≤ 4611686018427387904 := by
    have h1 := mTo_mono L n (L.length - (i + 1)) (i + 1)
    rw [show i + 1 + (L.length - (i + 1)) = L.length by omega] at h1
    have h2 : mTo L n (i + 1) = nTo (L.getD i []) (mTo L n i) (L.getD i []).length := rfl
    have := HN.out
    omega
   have hcall := markIntSS_calls oki u (L.getD i []) (mTo L n i) w0 wr HB.out hR hle
   have HBK := Aside0.mk (fun w1 (hk : Kept wr w1 oki) (h : Kd.S (Kd.slice 3 (Kd.int .i64)) 28 w1 w0.heap.size oki u (markT (L.getD i []) (mTo L n i))) =>
    show Kd.S tabK 22 w1 w0.heap.size P (.slice (some ⟨g, 0, none⟩) L.length c) (markMS L n (i + 1)) from by
     have := Kd.H_back (Kd.H_step hH (fun k _ hnk hlt => hk.2 k hlt hnk)) (x' := markT (L.getD i []) (mTo L n i)) (okp := oki) ⟨u, rfl, h⟩ (fun _ h => h)
     rwa [Int.toNat_natCast, markMS_set L n i hlt] at this)
   have HKK := Aside0.mk (fun w1 (hk : Kept wr w1 oki) => show Kept w w1 P from HK.out.then_ hk (fun k h => .inl (hoki k h).1))
   have HNX := Aside0.mk (show mTo L n (i + 1) = nTo (L.getD i []) (mTo L n i) (L.getD i []).length from rfl)
   obtain ⟨T, hT⟩ : ∃ T, T = L.getD i [] := ⟨_, rfl⟩
   rw [← hT] at HBK HNX hcall
   clear hR hcc hoki hH hT hle
   go_wp2_with (go_at_call 13; refine hcall.mono ?_; rintro e w1 ⟨rfl, hr, hb, hk⟩; have HS1 := Aside0.mk (HBK.out _ hk hr); have HK1 := Aside0.mk (HKK.out _ hk); have HB1 := Aside0.mk hb; clear hr hb hk)
   go_roundg (L.length - (i + 1))
   case measure => omega
   case rel => exact ⟨i + 1, by omega, by omega, by go_num, by rw [HNX.out], HS1, HK1, HB1⟩
  ·have hz : ¬ (i : Int) < (L.length : Int) := by omega
   have e : i = L.length := by omega
   subst e
   go_wp2
   go_ret
   exact ⟨rfl, HS.out, HB.out, HK.out⟩
end Go.Proofs.Ythbkjaieenochaa.L

namespace Go.Proofs.Ythbkjaieenochaa.L
open Go.RowKit Go.Proofs.Ythbkjaieenochaa Go.Proofs.Ythbkjaieenochaa.P Go.Proofs.YthbkjaieenochaaW.PrintWords Go.Proofs.YthbkjaieenochaaW.PrintLast Go.Proofs.YthbkjaieenochaaW.PrintMore
set_option linter.unusedVariables false

/-- Few tables, and small ones. -/
def fewM (L : List (List (List Int))) : Prop := L.length ≤ 4096 ∧ ∀ T ∈ L, T.length ≤ 4096 ∧ ∀ r ∈ T, r.length ≤ 4096
theorem fewM.at_ {L : List (List (List Int))} (h : fewM L) (i : Nat) : fewRows (L.getD i []) ∧ (L.getD i []).length ≤ 4096 ∧ ∀ r ∈ L.getD i [], r.length ≤ 4096 := by
 rw [List.getD_eq_getElem?_getD]
 rcases Nat.lt_or_ge i L.length with hi | hi
 ·rw [List.getElem?_eq_getElem hi]
  have := h.2 _ (List.getElem_mem hi)
  exact ⟨⟨by have := this.1; show L[i].length ≤ _; omega, fun r hr => by have := this.2 r hr; omega⟩, this.1, this.2⟩
 ·rw [List.getElem?_eq_none hi]
  exact ⟨⟨by simp, fun r hr => by simp at hr⟩, by simp, fun r hr => by simp at hr⟩
theorem mTo_le (L : List (List (List Int))) (h : fewM L) : ∀ i, mTo L 1 i ≤ 1 + i * 16777216
 | 0 => by simp [mTo]
 | i + 1 => by
  have h1 := mTo_le L h i
  obtain ⟨_, h2, h3⟩ := h.at_ i
  have h4 := nTo_le (L.getD i []) (mTo L 1 i) 4096 h3 (L.getD i []).length
  have h5 : (L.getD i []).length * 4096 ≤ 4096 * 4096 := Nat.mul_le_mul_right _ h2
  rw [mTo, Nat.succ_mul]
  omega
theorem few_m {L : List (List (List Int))} (h : fewM L) : mTo L 1 L.length ≤ 4611686018427387904 := by
 have h1 := mTo_le L h L.length
 have h2 : L.length * 16777216 ≤ 4096 * 16777216 := Nat.mul_le_mul_right _ h.1
 omega
theorem rd2_get (L : List (List (List Int))) (i : Nat) : rd_L2 L (i : Int) = L.getD i [] := by simp [rd_L2]
theorem eqIntSSS_l0 (L : List (List (List Int))) (hl : fewM L) : ∀ (d i : Nat), i + d = L.length → Ev (fun k => laws_eqIntSSS.l0 k L L i) true := by
 have hl1 := hl.1
 intro d
 induction d with
 | zero =>
  intro i hi
  refine Ev.step (fun k => by rw [laws_eqIntSSS.l0]) ?_
  exact Ev.ite_neg (by omega) (Ev.now _)
 | succ d ih =>
  intro i hi
  refine Ev.step (fun k => by rw [laws_eqIntSSS.l0]) ?_
  refine Ev.ite_pos (by omega) (Ev.ite_pos (by omega) (Ev.ite_pos (by omega) (Ev.bind (eqIntSS _ (by rw [rd2_get]; exact (hl.at_ i).1.ok)) (Ev.ite_pos rfl ?_))))
  rw [wrapS i (by omega)]
  exact ih (i + 1) (by omega)
theorem eqIntSSS_ev (L : List (List (List Int))) (hl : fewM L) : Ev (fun k => laws_eqIntSSS.f k L L) true := by
 unfold laws_eqIntSSS.f
 exact Ev.ite_pos rfl (eqIntSSS_l0 L hl L.length 0 (by omega))
theorem heldIntSSS_l0 (L : List (List (List Int))) (hl : fewM L) : ∀ (d i : Nat), i + d = L.length → Ev (fun k => laws_heldIntSSS.l0 k (markM L 1) (mTo L 1 i) i) ((mTo L 1 L.length : Nat) : Int) := by
 have hl1 := hl.1
 have hm := few_m hl
 intro d
 induction d with
 | zero =>
  intro i hi
  refine Ev.step (fun k => by rw [laws_heldIntSSS.l0]) ?_
  rw [show (markM L 1).length = L.length from markMS_length _ _ _]
  have e : i = L.length := by omega
  subst e
  exact Ev.ite_neg (by omega) (Ev.now _)
 | succ d ih =>
  intro i hi
  refine Ev.step (fun k => by rw [laws_heldIntSSS.l0]) ?_
  have h1 := mTo_mono L 1 (L.length - (i + 1)) (i + 1)
  rw [show i + 1 + (L.length - (i + 1)) = L.length by omega] at h1
  have hx : mTo L 1 (i + 1) = nTo (L.getD i []) (mTo L 1 i) (L.getD i []).length := rfl
  obtain ⟨_, h2, _⟩ := hl.at_ i
  rw [show (markM L 1).length = L.length from markMS_length _ _ _, rd2_get, show (markM L 1).getD i [] = markT (L.getD i []) (mTo L 1 i) by rw [markM, markMS_get L 1 _ i (by omega), if_pos (by omega)]]
  refine Ev.ite_pos (by omega) (Ev.ite_pos (by omega) (Ev.bind (heldIntSS_ev _ _ (by omega) (by omega)) (Ev.ite_neg (by omega) ?_)))
  rw [wrapS i (by omega), ← hx]
  exact ih (i + 1) (by omega)
theorem heldIntSSS_ev (L : List (List (List Int))) (hl : fewM L) : Ev (fun k => laws_heldIntSSS.f k (markM L 1) 1) ((mTo L 1 L.length : Nat) : Int) := heldIntSSS_l0 L hl L.length 0 (by omega)

/-- A list of tables that lies in the blocks from a to b alone. -/
structure OwnM (B a b : Nat) (w : World) (v : Value) (T : List (List (List Int))) : Prop where
 s : Kd.S tabK 22 w B (Itv a b) v T
 lo : B ≤ a
 hi : b ≤ w.heap.size
theorem OwnM.new {B : Nat} {w w' : World} {v : Value} {T : List (List (List Int))} (h : Kd.S tabK 22 w' w.heap.size (fun _ => True) v T) (hB : B ≤ w.heap.size) : OwnM B w.heap.size w'.heap.size w' v T :=
 ⟨Kd.S_lower (Kd.S_mono (Kd.S_bound h) (fun _ hk => ⟨hk.2.1, hk.2.2.1⟩)) hB, hB, Nat.le_refl _⟩
theorem OwnM.below {B a b : Nat} {w w' : World} {v : Value} {T : List (List (List Int))} (h : OwnM B a b w v T) (hb : Below w.heap.size w w') : OwnM B a b w' v T :=
 ⟨Kd.S_kept h.s (Kept.of_below hb (fun _ => False)) (fun _ _ h => h), h.lo, Nat.le_trans h.hi hb.size⟩
theorem OwnM.kept {B a b c d : Nat} {w w' : World} {v : Value} {T : List (List (List Int))} (h : OwnM B a b w v T) (hk : Kept w w' (Itv c d)) (hd : b ≤ c ∨ d ≤ a) : OwnM B a b w' v T :=
 ⟨Kd.S_kept h.s hk (fun k h1 h2 => by have := h1.1; have := h1.2; have := h2.1; have := h2.2; omega), h.lo, Nat.le_trans h.hi hk.1⟩
theorem OwnM.slice {B a b : Nat} {w : World} {v : Value} {T : List (List (List Int))} (h : OwnM B a b w v T) : ∃ A c, v = .slice A T.length c ∧ T.length ≤ c := by
 obtain ⟨A, c, rfl⟩ := Kd.R_slice (Kd.S_R h.s)
 exact ⟨A, c, rfl, (Kd.R_reads' (Kd.S_R h.s)).2.1⟩
theorem OwnM.reads {B a b n c : Nat} {A : Option Addr} {w : World} {T : List (List (List Int))} (h : OwnM B a b w (.slice A n c) T) : Kd.C (Kd.slice 28 (Kd.slice 3 (Kd.int .i64))) w A T.length T := tab_C (Kd.R_reads' (Kd.S_R h.s)).2.2
theorem OwnM.reads' {B a b n c m : Nat} {A : Option Addr} {w : World} {T : List (List (List Int))} (h : OwnM B a b w (.slice A n c) T) (e : T.length = m) : Kd.C (Kd.slice 28 (Kd.slice 3 (Kd.int .i64))) w A m T := e ▸ h.reads
/-- Marking. -/
theorem mark_ownM {B a b : Nat} {v : Value} {T : List (List (List Int))} {W w : World} (hW : W.heap.size = B) (hB : Below B W w) (h : OwnM B a b w v T) (hf : fewM T) :
  Calls Try.prog 32 #[v, .int .i64 1] w fun e w' => e = .returned (.int .i64 (mTo T 1 T.length : Nat)) ∧ OwnM B a b w' v (markM T 1) ∧ Below B W w' ∧ Kept w w' (Itv a b) := by
 subst hW
 refine (markIntSSS_calls (Itv a b) v T 1 W w hB h.s (few_m hf)).mono ?_
 rintro e w' ⟨h1, h2, h3, h4⟩
 exact ⟨h1, ⟨h2, h.lo, Nat.le_trans h.hi h4.1⟩, h3, h4⟩
/-- What is only read, and is elder than N. -/
structure Old {α : Type} (d : Kd α) (N : Nat) (w : World) (A : Option Addr) (T : List α) : Prop where
 f : Kd.F d w (fun k => k < N) A T.length T
 hi : N ≤ w.heap.size
theorem Old.new {α : Type} {d : Kd α} (hd : Kd.Heap d) {w : World} {A : Option Addr} {T : List α} (h : d.C w A T.length T) : Old d w.heap.size w A T := ⟨Kd.C_F hd h, Nat.le_refl _⟩
theorem Old.below {α : Type} {d : Kd α} {N : Nat} {w w' : World} {A : Option Addr} {T : List α} (h : Old d N w A T) (hb : Below w.heap.size w w') : Old d N w' A T := ⟨Kd.F_below h.f hb, Nat.le_trans h.hi hb.size⟩
theorem Old.kept {α : Type} {d : Kd α} {N a b : Nat} {w w' : World} {A : Option Addr} {T : List α} (h : Old d N w A T) (hk : Kept w w' (Itv a b)) (ha : N ≤ a) : Old d N w' A T := ⟨Kd.F_kept h.f hk (fun k hk h2 => by have := h2.1; omega), Nat.le_trans h.hi hk.1⟩
theorem Old.reads {α : Type} {d : Kd α} {N : Nat} {w : World} {A : Option Addr} {T : List α} (h : Old d N w A T) : d.C w A T.length T := Kd.F_now h.f
theorem heap_T : Kd.Heap (Kd.slice 3 (Kd.int .i64)) := Kd.heap_slice _ (Kd.heap_int _)
theorem heap_M : Kd.Heap (Kd.slice 28 (Kd.slice 3 (Kd.int .i64))) := Kd.heap_slice _ heap_T
/-- A value that is only read comes back, and whether it counts. -/
def RetC {α : Type} (d : Kd α) (w : World) (T : List α) (b : Bool) (e : Ending) (w' : World) : Prop := ∃ A c, e = .returned (.tuple #[.slice A T.length c, .bool b]) ∧ T.length ≤ c ∧ d.C w' A T.length T ∧ Below w.heap.size w w'
/-- A list of tables of the call's own comes back, and whether it counts. -/
def RetTM (w : World) (T : List (List (List Int))) (b : Bool) (e : Ending) (w' : World) : Prop := ∃ v0_ : Value, e = .returned (.tuple #[v0_, .bool b]) ∧ Kd.S tabK 22 w' w.heap.size (fun _ => True) v0_ T ∧ Below w.heap.size w w'
theorem RetC.of_N {α : Type} {d : Kd α} {w : World} {P : Nat → Prop} {T : List α} {b : Bool} {eT : Nat} {e : Ending} {w' : World} (h : ∃ v0_ : Value, e = .returned (.tuple #[v0_, .bool b]) ∧ Kd.N d eT w' w.heap.size P v0_ T ∧ Below w.heap.size w w') : RetC d w T b e w' := by
 obtain ⟨v, rfl, hN, hb⟩ := h
 obtain ⟨A, c, rfl⟩ := Kd.N_slice hN
 have := Kd.N_reads' hN
 exact ⟨A, c, rfl, this.2.1, this.2.2, hb⟩
end Go.Proofs.Ythbkjaieenochaa.L
