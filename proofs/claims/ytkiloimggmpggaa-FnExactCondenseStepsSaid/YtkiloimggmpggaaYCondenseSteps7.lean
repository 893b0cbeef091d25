/- Texts of one chain, in build order. -/
import Derived.Test.YtkiloimggmpggaaYCondenseSteps6
namespace Go.Proofs.Ytkiloimggmpggaa.L
open Go.RowKit Go.Proofs.Ytkiloimggmpggaa Go.Proofs.Ytkiloimggmpggaa.P Go.Proofs.YtkiloimggmpggaaW.PrintWords Go.Proofs.YtkiloimggmpggaaW.PrintLast Go.Proofs.YtkiloimggmpggaaW.PrintMore

theorem wrapS (i : Nat) (h : i < 9223372036854775807) : wrap64 ((i : Int) + 1) = ((i + 1 : Nat) : Int) := by unfold wrap64; omega
theorem wrapI (i : Int) (h0 : -9223372036854775808 ≤ i) (h : i ≤ 9223372036854775807) : wrap64 i = i := by unfold wrap64; omega
theorem wrapP (i : Nat) (h0 : 1 ≤ i) (h : i < 9223372036854775807) : wrap64 ((i : Int) - 1) = ((i - 1 : Nat) : Int) := by unfold wrap64; omega
theorem rd_at (l : List Int) (i : Nat) (h : i < l.length) : rd l (i : Int) = l[i] := by simp [rd, List.getD_eq_getElem?_getD, h]
theorem rd1_at (l : List (List Int)) (i : Nat) (h : i < l.length) : rd_L1 l (i : Int) = l[i] := by simp [rd_L1, List.getD_eq_getElem?_getD, h]
theorem rd1_get (l : List (List Int)) (i : Nat) : rd_L1 l (i : Int) = l.getD i [] := by simp [rd_L1]
theorem Ev.ite_pos {α : Type} {c : Prop} [Decidable c] {a b : Nat → Option α} {r : α} (h : c) (k : Ev a r) : Ev (fun n => if c then a n else b n) r := by
 simp only [if_pos h]; exact k
theorem Ev.ite_neg {α : Type} {c : Prop} [Decidable c] {a b : Nat → Option α} {r : α} (h : ¬ c) (k : Ev b r) : Ev (fun n => if c then a n else b n) r := by
 simp only [if_neg h]; exact k
theorem Ev.some_bind {α β : Type} {o : Option α} {a : α} {f : Nat → α → Option β} {r : β} (h : o = some a) (k : Ev (fun n => f n a) r) : Ev (fun n => o.bind (f n)) r := by
 subst h; simp only [Option.bind_some]; exact k
theorem eqIntS_l0 (l : List Int) (hl : l.length ≤ 17592186044416) : ∀ (d i : Nat), i + d = l.length → Ev (fun k => laws_eqIntS.l0 k l l i) true := by
 intro d
 induction d with
 | zero =>
  intro i hi
  refine Ev.step (fun k => by rw [laws_eqIntS.l0]) ?_
  exact Ev.ite_neg (by omega) (Ev.now _)
 | succ d ih =>
  intro i hi
  refine Ev.step (fun k => by rw [laws_eqIntS.l0]) ?_
  refine Ev.ite_pos (by omega) (Ev.ite_pos (by omega) (Ev.ite_pos (by omega) (Ev.ite_pos rfl ?_)))
  rw [wrapS i (by omega)]
  exact ih (i + 1) (by omega)
theorem eqIntS (l : List Int) (hl : l.length ≤ 17592186044416) : Ev (fun k => laws_eqIntS.f k l l) true := by
 unfold laws_eqIntS.f
 exact Ev.ite_pos rfl (eqIntS_l0 l hl l.length 0 (by omega))
theorem eqIntSS_l0 (l : List (List Int)) (hl : rowsOk l) : ∀ (d i : Nat), i + d = l.length → Ev (fun k => laws_eqIntSS.l0 k l l i) true := by
 have hl1 := hl.1
 intro d
 induction d with
 | zero =>
  intro i hi
  refine Ev.step (fun k => by rw [laws_eqIntSS.l0]) ?_
  exact Ev.ite_neg (by omega) (Ev.now _)
 | succ d ih =>
  intro i hi
  refine Ev.step (fun k => by rw [laws_eqIntSS.l0]) ?_
  refine Ev.ite_pos (by omega) (Ev.ite_pos (by omega) (Ev.ite_pos (by omega) (Ev.bind (eqIntS _ (by rw [rd1_get]; exact hl.at_ i)) (Ev.ite_pos rfl ?_))))
  rw [wrapS i (by omega)]
  exact ih (i + 1) (by omega)
theorem eqIntSS (l : List (List Int)) (hl : rowsOk l) : Ev (fun k => laws_eqIntSS.f k l l) true := by
 unfold laws_eqIntSS.f
 exact Ev.ite_pos rfl (eqIntSS_l0 l hl l.length 0 (by omega))
theorem toIntSS_eq (l : List (List Int)) (hl : rowsOk l) : laws_toIntSS.f l = some l := by
 unfold laws_toIntSS.f
 rw [if_pos ⟨hl.1, List.all_eq_true.2 fun r hr => decide_eq_true (hl.2 r hr)⟩]
/-- Few rows, and short ones. -/
def fewRows (l : List (List Int)) : Prop := l.length ≤ 1048576 ∧ ∀ r ∈ l, r.length ≤ 1048576
theorem fewRows.ok {l : List (List Int)} (h : fewRows l) : rowsOk l := ⟨by have := h.1; omega, fun r hr => by have := h.2 r hr; omega⟩
theorem szIntSS_l0 (l : List (List Int)) (hl : l.length ≤ 1048576) (hr : ∀ r ∈ l, r.length ≤ 9223372036854775807) : ∀ (d i : Nat) (left : Int), i + d = l.length → 0 ≤ left → left ≤ 1048576 →
  ∃ t : Int, t ≤ 1048576 ∧ Ev (fun k => laws_szIntSS.l0 k l left i) t ∧ (t < 0 ∨ ∀ r ∈ l.drop i, r.length ≤ 1048576) := by
 intro d
 induction d with
 | zero =>
  intro i left hi h0 h1
  refine ⟨left, h1, ?_, .inr fun r hr => ?_⟩
  ·refine Ev.step (fun k => by rw [laws_szIntSS.l0]) ?_
   exact Ev.ite_neg (by omega) (Ev.now _)
  ·rw [List.drop_eq_nil_of_le (by omega)] at hr
   cases hr
 | succ d ih =>
  intro i left hi h0 h1
  have hri : l[i].length ≤ 9223372036854775807 := hr _ (List.getElem_mem (by omega))
  have hw : wrap64 (left - (l[i].length : Int)) = left - (l[i].length : Int) := wrapI _ (by omega) (by omega)
  by_cases hn : left - (l[i].length : Int) < 0
  ·refine ⟨-1, by omega, ?_, .inl (by omega)⟩
   refine Ev.step (fun k => by rw [laws_szIntSS.l0]) ?_
   refine Ev.ite_pos (by omega) (Ev.ite_pos (by omega) (Ev.some_bind (a := -1) ?_ (Ev.ite_pos (by omega) (Ev.now _))))
   rw [rd1_at l i (by omega)]
   unfold laws_szIntS.f
   rw [hw, if_pos hn]
  ·obtain ⟨t, ht1, ht, hd⟩ := ih (i + 1) (left - (l[i].length : Int)) (by omega) (by omega) (by omega)
   refine ⟨t, ht1, ?_, ?_⟩
   ·refine Ev.step (fun k => by rw [laws_szIntSS.l0]) ?_
    refine Ev.ite_pos (by omega) (Ev.ite_pos (by omega) (Ev.some_bind (a := left - (l[i].length : Int)) ?_ (Ev.ite_neg (by omega) ?_)))
    ·rw [rd1_at l i (by omega)]
     unfold laws_szIntS.f
     rw [hw, if_neg hn]
    ·rw [wrapS i (by omega)]
     exact ht
   ·rcases hd with hd | hd
    ·exact .inl hd
    ·refine .inr fun r hr2 => ?_
     rw [List.drop_eq_getElem_cons (by omega)] at hr2
     rcases List.mem_cons.1 hr2 with rfl | h2
     ·omega
     ·exact hd r h2
theorem szIntSS_at (l : List (List Int)) (left : Int) (h0 : 0 ≤ left) (h1 : left ≤ 1048576) (hlen : l.length ≤ 9223372036854775807) (hr : ∀ r ∈ l, r.length ≤ 9223372036854775807) : ∃ t : Int, t ≤ 1048576 ∧ Ev (fun k => laws_szIntSS.f k l left) t ∧ (t < 0 ∨ fewRows l) := by
 unfold laws_szIntSS.f
 have hw : wrap64 (left - (l.length : Int)) = left - (l.length : Int) := wrapI _ (by omega) (by omega)
 rw [hw]
 by_cases hn : left - (l.length : Int) < 0
 ·exact ⟨-1, by omega, Ev.ite_pos hn (Ev.now _), .inl (by omega)⟩
 ·obtain ⟨t, ht1, ht, hd⟩ := szIntSS_l0 l (by omega) hr l.length 0 (left - (l.length : Int)) (by omega) (by omega) (by omega)
  refine ⟨t, ht1, Ev.ite_neg hn ht, ?_⟩
  rcases hd with hd | hd
  ·exact .inl hd
  ·exact .inr ⟨by omega, by simpa using hd⟩
theorem szIntSS_in {w : World} {A : Option Addr} {n c : Nat} {l : List (List Int)} (h : RowsIn w A n c l) : ∃ t : Int, Ev (fun k => laws_szIntSS.f k l 1048576) t ∧ (t < 0 ∨ fewRows l) := by
 obtain ⟨t, _, ht, hd⟩ := szIntSS_at l 1048576 (by omega) (by omega) (by have := h.size; omega) (fun r hr => (h.rows r hr).1)
 exact ⟨t, ht, hd⟩

end Go.Proofs.Ytkiloimggmpggaa.L

namespace Go.Proofs.Ytkiloimggmpggaa.L
open Go.RowKit Go.Proofs.Ytkiloimggmpggaa Go.Proofs.Ytkiloimggmpggaa.P Go.Proofs.YtkiloimggmpggaaW.PrintWords Go.Proofs.YtkiloimggmpggaaW.PrintLast Go.Proofs.YtkiloimggmpggaaW.PrintMore
set_option linter.unusedVariables false

/-- A row numbered from n on. -/
def numR (len : Nat) (n : Nat) : List Int := (List.range len).map fun i => ((n + i : Nat) : Int)
theorem numR_length (len n : Nat) : (numR len n).length = len := by simp [numR]
/-- A row of which the first i are numbered. -/
def numS (l : List Int) (n i : Nat) : List Int := numR i n ++ l.drop i
theorem numS_length (l : List Int) (n i : Nat) (h : i ≤ l.length) : (numS l n i).length = l.length := by simp [numS, numR_length]; omega
theorem numS_set (l : List Int) (n i : Nat) (h : i < l.length) : (numS l n i).set i ((n + i : Nat) : Int) = numS l n (i + 1) := by
 unfold numS
 rw [List.set_append, if_neg (by rw [numR_length]; omega), numR_length, Nat.sub_self, List.drop_eq_getElem_cons h, List.set_cons_zero]
 simp [numR, List.range_succ]
theorem markIntS_l0 (l : List Int) (n : Nat) (hn : n + l.length ≤ 4611686018427387904) : ∀ (d i : Nat), i + d = l.length → Ev (fun k => laws_markIntS.l0 k (numS l n i) ((n + i : Nat) : Int) i) (((n + l.length : Nat) : Int), numR l.length n) := by
 intro d
 induction d with
 | zero =>
  intro i hi
  refine Ev.step (fun k => by rw [laws_markIntS.l0]) ?_
  rw [numS_length l n i (by omega)]
  have e : i = l.length := by omega
  subst e
  refine Ev.ite_neg (by omega) ?_
  unfold numS
  rw [List.drop_length, List.append_nil]
  exact Ev.now _
 | succ d ih =>
  intro i hi
  refine Ev.step (fun k => by rw [laws_markIntS.l0]) ?_
  rw [numS_length l n i (by omega), Int.toNat_natCast, numS_set l n i (by omega), wrapS (n + i) (by omega), wrapS i (by omega)]
  exact Ev.ite_pos (by omega) (Ev.ite_pos (by omega) (ih (i + 1) (by omega)))
theorem markIntS_ev (l : List Int) (n : Nat) (hn : n + l.length ≤ 4611686018427387904) : Ev (fun k => laws_markIntS.f k l n) (((n + l.length : Nat) : Int), numR l.length n) := by
 have := markIntS_l0 l n hn l.length 0 (by omega)
 simpa [numS, numR, laws_markIntS.f] using this
/-- The number with which row i begins. -/
def nTo (T : List (List Int)) (n : Nat) : Nat → Nat
 | 0 => n
 | i + 1 => nTo T n i + (T.getD i []).length
theorem nTo_mono (T : List (List Int)) (n : Nat) : ∀ (d i : Nat), nTo T n i ≤ nTo T n (i + d)
 | 0, i => Nat.le_refl _
 | d + 1, i => Nat.le_trans (nTo_mono T n d i) (by show _ ≤ nTo T n (i + d) + _; omega)
/-- The table numbered, and numbered up to row i. -/
def markS (T : List (List Int)) (n i : Nat) : List (List Int) := (List.range T.length).map fun k => if k < i then numR (T.getD k []).length (nTo T n k) else T.getD k []
def markT (T : List (List Int)) (n : Nat) : List (List Int) := markS T n T.length
theorem markS_length (T : List (List Int)) (n i : Nat) : (markS T n i).length = T.length := by simp [markS]
theorem markS_zero (T : List (List Int)) (n : Nat) : markS T n 0 = T := by
 apply List.ext_getElem
 ·exact markS_length _ _ _
 ·intro k h1 h2
  simp [markS, List.getD_eq_getElem?_getD, h2]
theorem markS_get (T : List (List Int)) (n i k : Nat) (h : k < T.length) : (markS T n i).getD k [] = if k < i then numR (T.getD k []).length (nTo T n k) else T.getD k [] := by
 unfold markS
 simp [List.getD_eq_getElem?_getD, h]
theorem markS_set (T : List (List Int)) (n i : Nat) (h : i < T.length) : (markS T n i).set i (numR (T.getD i []).length (nTo T n i)) = markS T n (i + 1) := by
 apply List.ext_getElem
 ·rw [List.length_set, markS_length, markS_length]
 ·intro k h1 h2
  rw [markS_length] at h2
  rw [List.getElem_set]
  simp only [markS, List.getElem_map, List.getElem_range]
  by_cases e : i = k
  ·subst e
   rw [if_pos rfl, if_pos (by omega)]
  ·rw [if_neg e]
   by_cases h3 : k < i
   ·rw [if_pos h3, if_pos (by omega)]
   ·rw [if_neg h3, if_neg (by omega)]

set_option maxHeartbeats 4000000 in
set_option maxRecDepth 100000 in
theorem markIntSS_calls (P : Nat → Prop) (v : Value) (T : List (List Int)) (n : Nat) (w0 w : World) (hB : Below w0.heap.size w0 w) (hS : Kd.S (Kd.slice 3 (Kd.int .i64)) 38 w w0.heap.size P v T) (hn : nTo T n T.length ≤ 4611686018427387904) :
  Calls Try.prog 17 #[v, .int .i64 n] w fun e w' => e = .returned (.int .i64 (nTo T n T.length : Nat)) ∧ Kd.S (Kd.slice 3 (Kd.int .i64)) 38 w' w0.heap.size P v (markT T n) ∧ Below w0.heap.size w0 w' ∧ Kept w w' P := by
 obtain ⟨A, c, rfl⟩ := Kd.R_slice (Kd.S_R hS)
 have hln := (Kd.R_reads' (Kd.S_R hS)).2.2.2.1
 have HS := Aside0.mk (show Kd.S (Kd.slice 3 (Kd.int .i64)) 38 w w0.heap.size P (.slice A T.length c) (markS T n 0) by rw [markS_zero]; exact hS)
 have HB := Aside0.mk hB
 have HN := Aside0.mk hn
 have HK := Aside0.mk (Kept.refl w P)
 clear hS hB hn
 go_enter Try.func17, Try.ntmps17
 go_wp2
 go_loopg [1, 5] T.length (fun gg s1 s5 wr => ∃ i : Nat, i ≤ T.length ∧ T.length - i ≤ gg ∧ s5 = .int .i64 i ∧ s1 = .int .i64 (nTo T n i : Nat) ∧ Aside0 (Kd.S (Kd.slice 3 (Kd.int .i64)) 38 wr w0.heap.size P (.slice A T.length c) (markS T n i)) ∧ Aside0 (Kept w wr P) ∧ Aside0 (Below w0.heap.size w0 wr))
 case atStart => exact ⟨0, Nat.zero_le _, Nat.le_refl _, rfl, rfl, HS, HK, HB⟩
 case round =>
  clear HS HK HB
  obtain ⟨i, hi, hg, rfl, rfl, HS, HK, HB⟩ := hrel
  by_cases hlt : i < T.length
  ·have hz : (i : Int) < (T.length : Int) := by omega
   obtain ⟨ad, rfl, _⟩ := (Kd.R_reads' (Kd.S_R HS.out)).2.2.2.2 (show 0 < (markS T n i).length by rw [markS_length]; omega)
   obtain ⟨oki, cs, hcl, hM, hcc, hoki, hback⟩ := Kd.S_borrow HS.out ([] : List Int) (i : Int) (by omega) hz
   obtain ⟨u, rfl, hR⟩ := hM
   simp only [Int.toNat_natCast] at hR hcc hback
   rw [markS_get T n i i hlt, if_neg (by omega)] at hR
   have hx := hcc 0 _ rfl
   have hsz : (Kd.slice 3 (Kd.int .i64)).sz = 1 := rfl
   rw [hsz, Nat.mul_one, Nat.add_zero] at hx
   have hle : nTo T n i + (T.getD i []).length ≤ 4611686018427387904 := by
    have h1 := nTo_mono T n (T.length - (i + 1)) (i + 1)
    rw [show i + 1 + (T.length - (i + 1)) = T.length by omega] at h1
    have h2 : nTo T n (i + 1) = nTo T n i + (T.getD i []).length := rfl
    have := HN.out
    omega
   obtain ⟨k, hk⟩ := (markIntS_ev (T.getD i []) (nTo T n i) hle).rounds
   have hR2 : Kd.R (Kd.int .i64) 3 wr w0.heap.size (fun k => u.ownBlock = some k) u (T.getD i []) := Kd.R_flat (fun h => h) hR (fun k h _ => h)
   have hcall := laws_markIntS.calls k (fun k => u.ownBlock = some k) u (T.getD i []) (nTo T n i : Nat) _ _ w0 wr HB.out hR2 hk
   have HOW := Aside0.mk (fun k (h : u.ownBlock = some k) => hR.1 k h)
   have HOK := Aside0.mk hoki
   have HBK := Aside0.mk (fun w1 (hk : Kept wr w1 (fun k => u.ownBlock = some k)) (hb : Below w0.heap.size w0 w1) (h : Kd.R (Kd.int .i64) 3 w1 w0.heap.size (fun k => u.ownBlock = some k ∨ wr.heap.size ≤ k) u (numR (T.getD i []).length (nTo T n i))) =>
    show Kd.S (Kd.slice 3 (Kd.int .i64)) 38 w1 w0.heap.size P (.slice (some ad) T.length c) (markS T n (i + 1)) from by
     have := hback (w1 := w1) (row := u.ownBlock) (x' := numR (T.getD i []).length (nTo T n i)) ⟨hb.os.trans HB.out.os.symm, hb.tape.trans HB.out.tape.symm, hb.output.trans HB.out.output.symm, hk.1, fun k hk1 hk2 => hk.2 k hk1 (fun h => hk2 h.symm)⟩ (fun k h => hR.1 k h) ⟨u, rfl, Kd.R_flat (fun h => h) h (fun k h _ => hR.1 k h)⟩
     rwa [markS_set T n i hlt] at this)
   have HKK := Aside0.mk (fun w1 (hk : Kept wr w1 (fun k => u.ownBlock = some k)) => show Kept w w1 P from HK.out.then_ hk (fun k h => .inl (hoki k (hR.1 k h)).1))
   have hnx : nTo T n (i + 1) = nTo T n i + (T.getD i []).length := rfl
   have HNX := Aside0.mk hnx
   clear hback hR hR2 hcc hk hoki hnx
   go_wp2_with (go_at_call 44; refine hcall.mono ?_; rintro e w1 ⟨rfl, hr, hb, hk⟩; have HS1 := Aside0.mk (HBK.out _ hk hb hr); have HK1 := Aside0.mk (HKK.out _ hk); have HB1 := Aside0.mk hb; clear hr hb hk)
   go_roundg (T.length - (i + 1))
   case measure => omega
   case rel => exact ⟨i + 1, by omega, by omega, by go_num, by rw [HNX.out]; simp [List.getD_eq_getElem?_getD, hlt], HS1, HK1, HB1⟩
  ·have hz : ¬ (i : Int) < (T.length : Int) := by omega
   have e : i = T.length := by omega
   subst e
   go_wp2
   go_ret
   exact ⟨rfl, HS.out, HB.out, HK.out⟩
end Go.Proofs.Ytkiloimggmpggaa.L

namespace Go.Proofs.Ytkiloimggmpggaa.L
open Go.RowKit Go.Proofs.Ytkiloimggmpggaa Go.Proofs.Ytkiloimggmpggaa.P Go.Proofs.YtkiloimggmpggaaW.PrintWords Go.Proofs.YtkiloimggmpggaaW.PrintLast Go.Proofs.YtkiloimggmpggaaW.PrintMore
set_option linter.unusedVariables false

/-- The blocks from a up to b. -/
def Itv (a b : Nat) : Nat → Prop := fun k => a ≤ k ∧ k < b
/-- A table that lies in the blocks from a to b alone. -/
structure Own (B a b : Nat) (w : World) (v : Value) (T : List (List Int)) : Prop where
 s : Kd.S (Kd.slice 3 (Kd.int .i64)) 38 w B (Itv a b) v T
 lo : B ≤ a
 hi : b ≤ w.heap.size
theorem Own.new {B : Nat} {w w' : World} {v : Value} {T : List (List Int)} (h : Kd.S (Kd.slice 3 (Kd.int .i64)) 38 w' w.heap.size (fun _ => True) v T) (hB : B ≤ w.heap.size) : Own B w.heap.size w'.heap.size w' v T :=
 ⟨Kd.S_lower (Kd.S_mono (Kd.S_bound h) (fun _ hk => ⟨hk.2.1, hk.2.2.1⟩)) hB, hB, Nat.le_refl _⟩
theorem Own.below {B a b : Nat} {w w' : World} {v : Value} {T : List (List Int)} (h : Own B a b w v T) (hb : Below w.heap.size w w') : Own B a b w' v T :=
 ⟨Kd.S_kept h.s (Kept.of_below hb (fun _ => False)) (fun _ _ h => h), h.lo, Nat.le_trans h.hi hb.size⟩
theorem Own.kept {B a b c d : Nat} {w w' : World} {v : Value} {T : List (List Int)} (h : Own B a b w v T) (hk : Kept w w' (Itv c d)) (hd : b ≤ c ∨ d ≤ a) : Own B a b w' v T :=
 ⟨Kd.S_kept h.s hk (fun k h1 h2 => by have := h1.1; have := h1.2; have := h2.1; have := h2.2; omega), h.lo, Nat.le_trans h.hi hk.1⟩
theorem Own.slice {B a b : Nat} {w : World} {v : Value} {T : List (List Int)} (h : Own B a b w v T) : ∃ A c, v = .slice A T.length c ∧ T.length ≤ c := by
 obtain ⟨A, c, rfl⟩ := Kd.R_slice (Kd.S_R h.s)
 exact ⟨A, c, rfl, (Kd.R_reads' (Kd.S_R h.s)).2.1⟩
theorem Own.reads {B a b n c : Nat} {A : Option Addr} {w : World} {T : List (List Int)} (h : Own B a b w (.slice A n c) T) : Kd.C (Kd.slice 3 (Kd.int .i64)) w A T.length T := (Kd.R_reads' (Kd.S_R h.s)).2.2
theorem Own.reads' {B a b n c m : Nat} {A : Option Addr} {w : World} {T : List (List Int)} (h : Own B a b w (.slice A n c) T) (e : T.length = m) : Kd.C (Kd.slice 3 (Kd.int .i64)) w A m T := e ▸ h.reads
theorem nTo_le (T : List (List Int)) (n M : Nat) (h : ∀ r ∈ T, r.length ≤ M) : ∀ i, nTo T n i ≤ n + i * M
 | 0 => by simp [nTo]
 | i + 1 => by
  have := nTo_le T n M h i
  have h2 : (T.getD i []).length ≤ M := by
   rw [List.getD_eq_getElem?_getD]
   rcases Nat.lt_or_ge i T.length with hi | hi
   ·rw [List.getElem?_eq_getElem hi]; exact h _ (List.getElem_mem hi)
   ·rw [List.getElem?_eq_none hi]; simp
  rw [nTo, Nat.succ_mul]
  omega
theorem few_n {T : List (List Int)} (h : fewRows T) : nTo T 1 T.length ≤ 4611686018427387904 := by
 have h1 := nTo_le T 1 1048576 h.2 T.length
 have h2 : T.length * 1048576 ≤ 1048576 * 1048576 := Nat.mul_le_mul_right _ h.1
 omega
/-- Marking. -/
theorem mark_own {B a b : Nat} {v : Value} {T : List (List Int)} {W w : World} (hW : W.heap.size = B) (hB : Below B W w) (h : Own B a b w v T) (hf : fewRows T) :
  Calls Try.prog 17 #[v, .int .i64 1] w fun e w' => e = .returned (.int .i64 (nTo T 1 T.length : Nat)) ∧ Own B a b w' v (markT T 1) ∧ Below B W w' ∧ Kept w w' (Itv a b) := by
 subst hW
 refine (markIntSS_calls (Itv a b) v T 1 W w hB h.s (few_n hf)).mono ?_
 rintro e w' ⟨h1, h2, h3, h4⟩
 exact ⟨h1, ⟨h2, h.lo, Nat.le_trans h.hi h4.1⟩, h3, h4⟩
end Go.Proofs.Ytkiloimggmpggaa.L
