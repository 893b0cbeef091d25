/- The walk of the law FnExactGyrationOrbit, out of contracts of the two functions. -/
import Derived.Test.YtflhhbpgkjpbdaaZGyrationOrbit19
import Derived.Test.YtflhhbpgkjpbdaaZGyrationOrbit20
import Derived.Test.YtflhhbpgkjpbdaaZGyrationOrbit21
import Derived.Test.YtflhhbpgkjpbdaaZGyrationOrbit7
import Derived.Test.YtflhhbpgkjpbdaaZGyrationOrbit9
/- Lists of tables of the call's own, marked and read again. -/
namespace Go.Proofs.Ytflhhbpgkjpbdaa.L
open Go.RowKit Go.Proofs.Ytflhhbpgkjpbdaa Go.Proofs.Ytflhhbpgkjpbdaa.P Go.Proofs.YtflhhbpgkjpbdaaW.PrintWords Go.Proofs.YtflhhbpgkjpbdaaW.PrintLast Go.Proofs.YtflhhbpgkjpbdaaW.PrintMore
set_option linter.unusedVariables false

/-- A row as an element, its own elements apart. -/
def apart {α : Type} (e : Nat) (d : Kd α) : Kd (List α) where
 sz := 1
 E := e :: d.E
 K := (Kd.slice e d).K
 M := fun w base ok xs cs => ∃ v, cs = [v] ∧ Kd.S d e w base ok v xs
 K_len := fun h => (Kd.slice e d).K_len h
 K_one := fun h => (Kd.slice e d).K_one h
 K_below := fun hb h => (Kd.slice e d).K_below hb h
 K_of_M := by
  rintro w base ok x cs ⟨v, rfl, h⟩
  exact (Kd.slice e d).K_of_M ⟨v, rfl, Kd.S_R h⟩
 M_mono := by
  rintro w base ok ok' x cs hok ⟨v, rfl, h⟩
  exact ⟨v, rfl, Kd.S_mono h hok⟩
 M_bound := by
  rintro w base ok x cs ⟨v, rfl, h⟩
  exact ⟨v, rfl, Kd.S_bound h⟩
 M_move := by
  rintro w w1 base ok x cs hm ⟨v, rfl, h⟩
  exact ⟨v, rfl, Kd.S_move h hm⟩
 M_lower := by
  rintro w base base' ok x cs hb ⟨v, rfl, h⟩
  exact ⟨v, rfl, Kd.S_lower h hb⟩
/-- Tables whose rows are apart, as elements. -/
def tabK : Kd (List (List Int)) := apart 43 (Kd.slice 3 (Kd.int .i64))
theorem heap_tab : Kd.Heap tabK := ⟨fun hb h => (Kd.heap_slice 43 (Kd.heap_slice 3 (Kd.heap_int .i64))).K hb h⟩
theorem tab_C {w : World} {A : Option Addr} {n : Nat} {L : List (List (List Int))} (h : tabK.C w A n L) : Kd.C (Kd.slice 43 (Kd.slice 3 (Kd.int .i64))) w A n L := Kd.C_imp (d := tabK) (d' := Kd.slice 43 (Kd.slice 3 (Kd.int .i64))) rfl (fun _ _ _ h => h) h

/-- The number with which table i begins. -/
def mTo (L : List (List (List Int))) (n : Nat) : Nat → Nat
 | 0 => n
 | i + 1 => nTo (L.getD i []) (mTo L n i) (L.getD i []).length
theorem mTo_mono (L : List (List (List Int))) (n : Nat) : ∀ (d i : Nat), mTo L n i ≤ mTo L n (i + d)
 | 0, i => Nat.le_refl _
 | d + 1, i => Nat.le_trans (mTo_mono L n d i) (by
  have := nTo_mono (L.getD (i + d) []) (mTo L n (i + d)) (L.getD (i + d) []).length 0
  rw [Nat.zero_add] at this
  exact this)
/-- The tables numbered up to i, and all of them. -/
def markMS (L : List (List (List Int))) (n i : Nat) : List (List (List Int)) := (List.range L.length).map fun k => if k < i then markT (L.getD k []) (mTo L n k) else L.getD k []
def markM (L : List (List (List Int))) (n : Nat) : List (List (List Int)) := markMS L n L.length
theorem markMS_length (L : List (List (List Int))) (n i : Nat) : (markMS L n i).length = L.length := by simp [markMS]
theorem markMS_zero (L : List (List (List Int))) (n : Nat) : markMS L n 0 = L := by
 apply List.ext_getElem
 ·exact markMS_length _ _ _
 ·intro k h1 h2
  simp [markMS, List.getD_eq_getElem?_getD, h2]
theorem markMS_get (L : List (List (List Int))) (n i k : Nat) (h : k < L.length) : (markMS L n i).getD k [] = if k < i then markT (L.getD k []) (mTo L n k) else L.getD k [] := by
 unfold markMS
 simp [List.getD_eq_getElem?_getD, h]
theorem markMS_set (L : List (List (List Int))) (n i : Nat) (h : i < L.length) : (markMS L n i).set i (markT (L.getD i []) (mTo L n i)) = markMS L n (i + 1) := by
 apply List.ext_getElem
 ·rw [List.length_set, markMS_length, markMS_length]
 ·intro k h1 h2
  rw [markMS_length] at h2
  rw [List.getElem_set]
  simp only [markMS, List.getElem_map, List.getElem_range]
  by_cases e : i = k
  ·subst e
   rw [if_pos rfl, if_pos (by omega)]
  ·rw [if_neg e]
   by_cases h3 : k < i
   ·rw [if_pos h3, if_pos (by omega)]
   ·rw [if_neg h3, if_neg (by omega)]

set_option maxHeartbeats 4000000 in
set_option maxRecDepth 100000 in
theorem markIntSSS_calls (P : Nat → Prop) (v : Value) (L : List (List (List Int))) (n : Nat) (w0 w : World) (hB : Below w0.heap.size w0 w) (hS : Kd.S tabK 22 w w0.heap.size P v L) (hn : mTo L n L.length ≤ 4611686018427387904) :
  Calls Try.prog 40 #[v, .int .i64 n] w fun e w' => e = .returned (.int .i64 (mTo L n L.length : Nat)) ∧ Kd.S tabK 22 w' w0.heap.size P v (markM L n) ∧ Below w0.heap.size w0 w' ∧ Kept w w' P := by
 obtain ⟨A, c, rfl⟩ := Kd.R_slice (Kd.S_R hS)
 have hln := (Kd.R_reads' (Kd.S_R hS)).2.2.2.1
 have HS := Aside0.mk (show Kd.S tabK 22 w w0.heap.size P (.slice A L.length c) (markMS L n 0) by rw [markMS_zero]; exact hS)
 have HB := Aside0.mk hB
 have HN := Aside0.mk hn
 have HK := Aside0.mk (Kept.refl w P)
 clear hS hB hn
 go_enter Try.func40, Try.ntmps40
 go_wp2
 go_loopg [1, 5] L.length (fun gg s1 s5 wr => ∃ i : Nat, i ≤ L.length ∧ L.length - i ≤ gg ∧ s5 = .int .i64 i ∧ s1 = .int .i64 (mTo L n i : Nat) ∧ Aside0 (Kd.S tabK 22 wr w0.heap.size P (.slice A L.length c) (markMS L n i)) ∧ Aside0 (Kept w wr P) ∧ Aside0 (Below w0.heap.size w0 wr))
 case atStart => exact ⟨0, Nat.zero_le _, Nat.le_refl _, rfl, rfl, HS, HK, HB⟩
 case round =>
  clear HS HK HB
  obtain ⟨i, hi, hg, rfl, rfl, HS, HK, HB⟩ := hrel
  by_cases hlt : i < L.length
  ·have hz : (i : Int) < (L.length : Int) := by omega
   obtain ⟨ad, rfl, _⟩ := (Kd.R_reads' (Kd.S_R HS.out)).2.2.2.2 (show 0 < (markMS L n i).length by rw [markMS_length]; omega)
   obtain ⟨g, rfl⟩ := Kd.R_head (Kd.S_R HS.out)
   obtain ⟨oki, cs, hcl, hM, hcc, _, hoki, hH⟩ := Kd.S_elem HS.out ([] : List (List Int)) (i : Int) (by omega) hz
   obtain ⟨u, rfl, hR⟩ := hM
   simp only [Int.toNat_natCast] at hR hcc
   rw [markMS_get L n i i hlt, if_neg (by omega)] at hR
   have hx := hcc 0 _ rfl
   have hsz : tabK.sz = 1 := rfl
   rw [hsz, Nat.mul_one, Nat.add_zero] at hx
   have hle : nTo (L.getD i []) (mTo L n i) (L.getD i []).length ≤ 4611686018427387904 := by
    have h1 := mTo_mono L n (L.length - (i + 1)) (i + 1)
    rw [show i + 1 + (L.length - (i + 1)) = L.length by omega] at h1
    have h2 : mTo L n (i + 1) = nTo (L.getD i []) (mTo L n i) (L.getD i []).length := rfl
    have := HN.out
    omega
   have hcall := markIntSS_calls oki u (L.getD i []) (mTo L n i) w0 wr HB.out hR hle
   have HBK := Aside0.mk (fun w1 (hk : Kept wr w1 oki) (h : Kd.S (Kd.slice 3 (Kd.int .i64)) 43 w1 w0.heap.size oki u (markT (L.getD i []) (mTo L n i))) =>
    show Kd.S tabK 22 w1 w0.heap.size P (.slice (some ⟨g, 0, none⟩) L.length c) (markMS L n (i + 1)) from by
     have := Kd.H_back (Kd.H_step hH (fun k _ hnk hlt => hk.2 k hlt hnk)) (x' := markT (L.getD i []) (mTo L n i)) (okp := oki) ⟨u, rfl, h⟩ (fun _ h => h)
     rwa [Int.toNat_natCast, markMS_set L n i hlt] at this)
   have HKK := Aside0.mk (fun w1 (hk : Kept wr w1 oki) => show Kept w w1 P from HK.out.then_ hk (fun k h => .inl (hoki k h).1))
   have HNX := Aside0.mk (show mTo L n (i + 1) = nTo (L.getD i []) (mTo L n i) (L.getD i []).length from rfl)
   obtain ⟨T, hT⟩ : ∃ T, T = L.getD i [] := ⟨_, rfl⟩
   rw [← hT] at HBK HNX hcall
   clear hR hcc hoki hH hT hle
   go_wp2_with (go_at_call 21; refine hcall.mono ?_; rintro e w1 ⟨rfl, hr, hb, hk⟩; have HS1 := Aside0.mk (HBK.out _ hk hr); have HK1 := Aside0.mk (HKK.out _ hk); have HB1 := Aside0.mk hb; clear hr hb hk)
   go_roundg (L.length - (i + 1))
   case measure => omega
   case rel => exact ⟨i + 1, by omega, by omega, by go_num, by rw [HNX.out], HS1, HK1, HB1⟩
  ·have hz : ¬ (i : Int) < (L.length : Int) := by omega
   have e : i = L.length := by omega
   subst e
   go_wp2
   go_ret
   exact ⟨rfl, HS.out, HB.out, HK.out⟩
end Go.Proofs.Ytflhhbpgkjpbdaa.L

/- Lists of tables: equal to themselves, marked, held; what is only read beside them. -/
namespace Go.Proofs.Ytflhhbpgkjpbdaa.L
open Go.RowKit Go.Proofs.Ytflhhbpgkjpbdaa Go.Proofs.Ytflhhbpgkjpbdaa.P Go.Proofs.YtflhhbpgkjpbdaaW.PrintWords Go.Proofs.YtflhhbpgkjpbdaaW.PrintLast Go.Proofs.YtflhhbpgkjpbdaaW.PrintMore
set_option linter.unusedVariables false

/-- Few tables, and small ones. -/
def fewM (L : List (List (List Int))) : Prop := L.length ≤ 4096 ∧ ∀ T ∈ L, T.length ≤ 4096 ∧ ∀ r ∈ T, r.length ≤ 4096
theorem fewM.at_ {L : List (List (List Int))} (h : fewM L) (i : Nat) : fewRows (L.getD i []) ∧ (L.getD i []).length ≤ 4096 ∧ ∀ r ∈ L.getD i [], r.length ≤ 4096 := by
 rw [List.getD_eq_getElem?_getD]
 rcases Nat.lt_or_ge i L.length with hi | hi
 ·rw [List.getElem?_eq_getElem hi]
  have := h.2 _ (List.getElem_mem hi)
  exact ⟨⟨by have := this.1; show L[i].length ≤ _; omega, fun r hr => by have := this.2 r hr; omega⟩, this.1, this.2⟩
 ·rw [List.getElem?_eq_none hi]
  exact ⟨⟨by simp, fun r hr => by simp at hr⟩, by simp, fun r hr => by simp at hr⟩
theorem mTo_le (L : List (List (List Int))) (h : fewM L) : ∀ i, mTo L 1 i ≤ 1 + i * 16777216
 | 0 => by simp [mTo]
 | i + 1 => by
  have h1 := mTo_le L h i
  obtain ⟨_, h2, h3⟩ := h.at_ i
  have h4 := nTo_le (L.getD i []) (mTo L 1 i) 4096 h3 (L.getD i []).length
  have h5 : (L.getD i []).length * 4096 ≤ 4096 * 4096 := Nat.mul_le_mul_right _ h2
  rw [mTo, Nat.succ_mul]
  omega
theorem few_m {L : List (List (List Int))} (h : fewM L) : mTo L 1 L.length ≤ 4611686018427387904 := by
 have h1 := mTo_le L h L.length
 have h2 : L.length * 16777216 ≤ 4096 * 16777216 := Nat.mul_le_mul_right _ h.1
 omega
theorem rd2_get (L : List (List (List Int))) (i : Nat) : rd_L2 L (i : Int) = L.getD i [] := by simp [rd_L2]
theorem eqIntSSS_l0 (L : List (List (List Int))) (hl : fewM L) : ∀ (d i : Nat), i + d = L.length → Ev (fun k => laws_eqIntSSS.l0 k L L i) true := by
 have hl1 := hl.1
 intro d
 induction d with
 | zero =>
  intro i hi
  refine Ev.step (fun k => by rw [laws_eqIntSSS.l0]) ?_
  exact Ev.ite_neg (by omega) (Ev.now _)
 | succ d ih =>
  intro i hi
  refine Ev.step (fun k => by rw [laws_eqIntSSS.l0]) ?_
  refine Ev.ite_pos (by omega) (Ev.ite_pos (by omega) (Ev.ite_pos (by omega) (Ev.bind (eqIntSS _ (by rw [rd2_get]; exact (hl.at_ i).1.ok)) (Ev.ite_pos rfl ?_))))
  rw [wrapS i (by omega)]
  exact ih (i + 1) (by omega)
theorem eqIntSSS_ev (L : List (List (List Int))) (hl : fewM L) : Ev (fun k => laws_eqIntSSS.f k L L) true := by
 unfold laws_eqIntSSS.f
 exact Ev.ite_pos rfl (eqIntSSS_l0 L hl L.length 0 (by omega))
theorem heldIntSSS_l0 (L : List (List (List Int))) (hl : fewM L) : ∀ (d i : Nat), i + d = L.length → Ev (fun k => laws_heldIntSSS.l0 k (markM L 1) (mTo L 1 i) i) ((mTo L 1 L.length : Nat) : Int) := by
 have hl1 := hl.1
 have hm := few_m hl
 intro d
 induction d with
 | zero =>
  intro i hi
  refine Ev.step (fun k => by rw [laws_heldIntSSS.l0]) ?_
  rw [show (markM L 1).length = L.length from markMS_length _ _ _]
  have e : i = L.length := by omega
  subst e
  exact Ev.ite_neg (by omega) (Ev.now _)
 | succ d ih =>
  intro i hi
  refine Ev.step (fun k => by rw [laws_heldIntSSS.l0]) ?_
  have h1 := mTo_mono L 1 (L.length - (i + 1)) (i + 1)
  rw [show i + 1 + (L.length - (i + 1)) = L.length by omega] at h1
  have hx : mTo L 1 (i + 1) = nTo (L.getD i []) (mTo L 1 i) (L.getD i []).length := rfl
  obtain ⟨_, h2, _⟩ := hl.at_ i
  rw [show (markM L 1).length = L.length from markMS_length _ _ _, rd2_get, show (markM L 1).getD i [] = markT (L.getD i []) (mTo L 1 i) by rw [markM, markMS_get L 1 _ i (by omega), if_pos (by omega)]]
  refine Ev.ite_pos (by omega) (Ev.ite_pos (by omega) (Ev.bind (heldIntSS_ev _ _ (by omega) (by omega)) (Ev.ite_neg (by omega) ?_)))
  rw [wrapS i (by omega), ← hx]
  exact ih (i + 1) (by omega)
theorem heldIntSSS_ev (L : List (List (List Int))) (hl : fewM L) : Ev (fun k => laws_heldIntSSS.f k (markM L 1) 1) ((mTo L 1 L.length : Nat) : Int) := heldIntSSS_l0 L hl L.length 0 (by omega)

/-- A list of tables that lies in the blocks from a to b alone. -/
structure OwnM (B a b : Nat) (w : World) (v : Value) (T : List (List (List Int))) : Prop where
 s : Kd.S tabK 22 w B (Itv a b) v T
 lo : B ≤ a
 hi : b ≤ w.heap.size
theorem OwnM.new {B : Nat} {w w' : World} {v : Value} {T : List (List (List Int))} (h : Kd.S tabK 22 w' w.heap.size (fun _ => True) v T) (hB : B ≤ w.heap.size) : OwnM B w.heap.size w'.heap.size w' v T :=
 ⟨Kd.S_lower (Kd.S_mono (Kd.S_bound h) (fun _ hk => ⟨hk.2.1, hk.2.2.1⟩)) hB, hB, Nat.le_refl _⟩
theorem OwnM.below {B a b : Nat} {w w' : World} {v : Value} {T : List (List (List Int))} (h : OwnM B a b w v T) (hb : Below w.heap.size w w') : OwnM B a b w' v T :=
 ⟨Kd.S_kept h.s (Kept.of_below hb (fun _ => False)) (fun _ _ h => h), h.lo, Nat.le_trans h.hi hb.size⟩
theorem OwnM.kept {B a b c d : Nat} {w w' : World} {v : Value} {T : List (List (List Int))} (h : OwnM B a b w v T) (hk : Kept w w' (Itv c d)) (hd : b ≤ c ∨ d ≤ a) : OwnM B a b w' v T :=
 ⟨Kd.S_kept h.s hk (fun k h1 h2 => by have := h1.1; have := h1.2; have := h2.1; have := h2.2; omega), h.lo, Nat.le_trans h.hi hk.1⟩
theorem OwnM.slice {B a b : Nat} {w : World} {v : Value} {T : List (List (List Int))} (h : OwnM B a b w v T) : ∃ A c, v = .slice A T.length c ∧ T.length ≤ c := by
 obtain ⟨A, c, rfl⟩ := Kd.R_slice (Kd.S_R h.s)
 exact ⟨A, c, rfl, (Kd.R_reads' (Kd.S_R h.s)).2.1⟩
theorem OwnM.reads {B a b n c : Nat} {A : Option Addr} {w : World} {T : List (List (List Int))} (h : OwnM B a b w (.slice A n c) T) : Kd.C (Kd.slice 43 (Kd.slice 3 (Kd.int .i64))) w A T.length T := tab_C (Kd.R_reads' (Kd.S_R h.s)).2.2
theorem OwnM.reads' {B a b n c m : Nat} {A : Option Addr} {w : World} {T : List (List (List Int))} (h : OwnM B a b w (.slice A n c) T) (e : T.length = m) : Kd.C (Kd.slice 43 (Kd.slice 3 (Kd.int .i64))) w A m T := e ▸ h.reads
/-- Marking. -/
theorem mark_ownM {B a b : Nat} {v : Value} {T : List (List (List Int))} {W w : World} (hW : W.heap.size = B) (hB : Below B W w) (h : OwnM B a b w v T) (hf : fewM T) :
  Calls Try.prog 40 #[v, .int .i64 1] w fun e w' => e = .returned (.int .i64 (mTo T 1 T.length : Nat)) ∧ OwnM B a b w' v (markM T 1) ∧ Below B W w' ∧ Kept w w' (Itv a b) := by
 subst hW
 refine (markIntSSS_calls (Itv a b) v T 1 W w hB h.s (few_m hf)).mono ?_
 rintro e w' ⟨h1, h2, h3, h4⟩
 exact ⟨h1, ⟨h2, h.lo, Nat.le_trans h.hi h4.1⟩, h3, h4⟩
/-- What is only read, and is elder than N. -/
structure Old {α : Type} (d : Kd α) (N : Nat) (w : World) (A : Option Addr) (T : List α) : Prop where
 f : Kd.F d w (fun k => k < N) A T.length T
 hi : N ≤ w.heap.size
theorem Old.new {α : Type} {d : Kd α} (hd : Kd.Heap d) {w : World} {A : Option Addr} {T : List α} (h : d.C w A T.length T) : Old d w.heap.size w A T := ⟨Kd.C_F hd h, Nat.le_refl _⟩
theorem Old.below {α : Type} {d : Kd α} {N : Nat} {w w' : World} {A : Option Addr} {T : List α} (h : Old d N w A T) (hb : Below w.heap.size w w') : Old d N w' A T := ⟨Kd.F_below h.f hb, Nat.le_trans h.hi hb.size⟩
theorem Old.kept {α : Type} {d : Kd α} {N a b : Nat} {w w' : World} {A : Option Addr} {T : List α} (h : Old d N w A T) (hk : Kept w w' (Itv a b)) (ha : N ≤ a) : Old d N w' A T := ⟨Kd.F_kept h.f hk (fun k hk h2 => by have := h2.1; omega), Nat.le_trans h.hi hk.1⟩
theorem Old.reads {α : Type} {d : Kd α} {N : Nat} {w : World} {A : Option Addr} {T : List α} (h : Old d N w A T) : d.C w A T.length T := Kd.F_now h.f
theorem heap_T : Kd.Heap (Kd.slice 3 (Kd.int .i64)) := Kd.heap_slice _ (Kd.heap_int _)
theorem heap_M : Kd.Heap (Kd.slice 43 (Kd.slice 3 (Kd.int .i64))) := Kd.heap_slice _ heap_T
/-- A value that is only read comes back, and whether it counts. -/
def RetC {α : Type} (d : Kd α) (w : World) (T : List α) (b : Bool) (e : Ending) (w' : World) : Prop := ∃ A c, e = .returned (.tuple #[.slice A T.length c, .bool b]) ∧ T.length ≤ c ∧ d.C w' A T.length T ∧ Below w.heap.size w w'
/-- A list of tables of the call's own comes back, and whether it counts. -/
def RetTM (w : World) (T : List (List (List Int))) (b : Bool) (e : Ending) (w' : World) : Prop := ∃ v0_ : Value, e = .returned (.tuple #[v0_, .bool b]) ∧ Kd.S tabK 22 w' w.heap.size (fun _ => True) v0_ T ∧ Below w.heap.size w w'
def RetTT (w : World) (T : List (List Int)) (b : Bool) (e : Ending) (w' : World) : Prop := ∃ v0_ : Value, e = .returned (.tuple #[v0_, .bool b]) ∧ Kd.S (Kd.slice 3 (Kd.int .i64)) 43 w' w.heap.size (fun _ => True) v0_ T ∧ Below w.heap.size w w'
def RetTR (w : World) (T : List Int) (b : Bool) (e : Ending) (w' : World) : Prop := ∃ v0_ : Value, e = .returned (.tuple #[v0_, .bool b]) ∧ Kd.R (Kd.int .i64) 3 w' w.heap.size (fun _ => True) v0_ T ∧ Below w.heap.size w w'
theorem RetC.of_N {α : Type} {d : Kd α} {w : World} {P : Nat → Prop} {T : List α} {b : Bool} {eT : Nat} {e : Ending} {w' : World} (h : ∃ v0_ : Value, e = .returned (.tuple #[v0_, .bool b]) ∧ Kd.N d eT w' w.heap.size P v0_ T ∧ Below w.heap.size w w') : RetC d w T b e w' := by
 obtain ⟨v, rfl, hN, hb⟩ := h
 obtain ⟨A, c, rfl⟩ := Kd.N_slice hN
 have := Kd.N_reads' hN
 exact ⟨A, c, rfl, this.2.1, this.2.2, hb⟩
theorem RetC.of_R {α : Type} {d : Kd α} {w : World} {P : Nat → Prop} {T : List α} {b : Bool} {eT : Nat} {e : Ending} {w' : World} (h : ∃ v0_ : Value, e = .returned (.tuple #[v0_, .bool b]) ∧ Kd.R d eT w' w.heap.size P v0_ T ∧ Below w.heap.size w w') : RetC d w T b e w' := by
 obtain ⟨v, rfl, hN, hb⟩ := h
 obtain ⟨A, c, rfl⟩ := Kd.R_slice hN
 have := Kd.R_reads' hN
 exact ⟨A, c, rfl, this.2.1, this.2.2, hb⟩
end Go.Proofs.Ytflhhbpgkjpbdaa.L

/- The walk of the law FnExactGyrationOrbit, out of contracts of the two functions. -/
namespace Go.Proofs.Ytflhhbpgkjpbdaa.Law
open Go.RowKit Go.Proofs.Ytflhhbpgkjpbdaa Go.Proofs.Ytflhhbpgkjpbdaa.P Go.Proofs.Ytflhhbpgkjpbdaa.L Go.Proofs.YtflhhbpgkjpbdaaW.PrintWords Go.Proofs.YtflhhbpgkjpbdaaW.PrintLast Go.Proofs.YtflhhbpgkjpbdaaW.PrintMore
set_option linter.unusedVariables false
set_option linter.unusedSimpArgs false

set_option maxHeartbeats 8000000 in
set_option maxRecDepth 100000 in
theorem walkGyrationOrbit (A : Option Addr) (cap : Nat) (l : List (List Int)) (r : List (List (List Int))) (b : Bool) (W : World) (h : RowsIn W A l.length cap l) (hl : fewRows l) (hr : fewM r) (t : Int) (ht : ¬ t < 0) (k0 : Nat) (hsz : laws_szIntSS.f k0 l 1048576 = some t)
  (hspec : ∀ (W' : World) (A' : Option Addr) (c' : Nat), Kd.C (Kd.slice 3 (Kd.int .i64)) W' A' l.length l → l.length ≤ c' → Calls Try.prog 37 #[.slice A' l.length c'] W' (RetC (Kd.slice 43 (Kd.slice 3 (Kd.int .i64))) W' r b))
  (himpl : ∀ (W' : World) (A' : Option Addr) (c' : Nat), Kd.C (Kd.slice 3 (Kd.int .i64)) W' A' l.length l → l.length ≤ c' → Calls Try.prog 38 #[.slice A' l.length c'] W' (RetTM W' r b)) :
  Calls Try.prog 11 #[.slice A l.length cap] W fun e w' => e = .returned (.bool true) ∧ Below W.heap.size W w' := by
 have HC := Aside0.mk h.read
 have HLE := Aside0.mk h.le
 have HFL := Aside0.mk hl
 have HFR := Aside0.mk hr
 have HSP := Aside0.mk hspec
 have HIM := Aside0.mk himpl
 have HB := Aside0.mk (Below.refl W.heap.size W)
 have htd : decide (t < 0) = false := decide_eq_false ht
 obtain ⟨ke, hke⟩ := (eqIntSS l hl.ok).rounds
 obtain ⟨kr, hkr⟩ := (eqIntSSS_ev r hr).rounds
 obtain ⟨kh, hkh⟩ := (heldIntSSS_ev r hr).rounds
 have HSZ := Aside0.mk (fun W' hb => laws_szIntSS.calls k0 A cap l 1048576 t W' (Kd.C_below h.read hb) h.le hsz)
 have HTO := Aside0.mk (fun W' hb => laws_toIntSS.calls A cap l l W' (Kd.C_below h.read hb) h.le (toIntSS_eq l hl.ok))
 have HEL := Aside0.mk (fun W' A0 c0 A1 c1 h0 g0 h1 g1 => laws_eqIntSS.calls ke A0 c0 l A1 c1 l true W' h0 g0 h1 g1 hke)
 have HER := Aside0.mk (fun W' A0 c0 A1 c1 h0 g0 h1 g1 => laws_eqIntSSS.calls kr A0 c0 r A1 c1 r true W' h0 g0 h1 g1 hkr)
 have HHE := Aside0.mk (fun W' A0 c0 h0 g0 => laws_heldIntSSS.calls kh A0 c0 (markM r 1) 1 ((mTo r 1 r.length) : Nat) W' h0 g0 hkh)
 have HMX := Aside0.mk (fun (a b : Nat) (v : Value) (w : World) (hB : Below W.heap.size W w) (ho : Own W.heap.size a b w v l) => mark_own rfl hB ho hl)
 have HMG := Aside0.mk (fun (a b : Nat) (v : Value) (w : World) (hB : Below W.heap.size W w) (ho : OwnM W.heap.size a b w v r) => mark_ownM rfl hB ho hr)
 have hnl : ¬ ((nTo l 1 l.length : Nat) : Int) < 0 := by omega
 have hnr : ¬ (((mTo r 1 r.length) : Nat) : Int) < 0 := by omega
 have hml : (markM r 1).length = r.length := markMS_length _ _ _
 obtain ⟨nl, hnle⟩ : ∃ n, n = nTo l 1 l.length := ⟨_, rfl⟩
 obtain ⟨nr, hnre⟩ : ∃ n, n = (mTo r 1 r.length) := ⟨_, rfl⟩
 rw [← hnle] at HMX hnl
 rw [← hnre] at HMG HHE hnr
 rw [hml] at HHE
 obtain ⟨mr, hmr⟩ : ∃ m, m = (markM r 1) := ⟨_, rfl⟩
 rw [← hmr] at HMG HHE hml
 obtain ⟨ml, hmle⟩ : ∃ m, m = markT l 1 := ⟨_, rfl⟩
 rw [← hmle] at HMX
 have HML := Aside0.mk hml
 clear h hl hr ht hsz hspec himpl hke hkr hkh hnle hnre hmr hmle hml
 go_enter Try.func11, Try.ntmps11
 go_wp2_with (first
  | (go_at_call 16; refine (HSZ.out _ HB.out).mono ?_; rintro e w1 ⟨rfl, hd⟩; have hb := hd.below; clear hd; (try (have n_ := Aside0.mk (HW.out.below hb); clear HW; have HW := n_)); (try (have n_ := Aside0.mk (HX.out.below hb); clear HX; have HX := n_)); (try (have n_ := Aside0.mk (HG.out.below hb); clear HG; have HG := n_)); (try (have n_ := Aside0.mk (HT.out.below hb); clear HT; have HT := n_)); (try (have n_ := Aside0.mk (HG1.out.below hb); clear HG1; have HG1 := n_)); (have n_ := Aside0.mk (below_step HB.out hb)); clear HB; have HB := n_; clear hb)
  | (go_at_call 18; refine (HTO.out _ HB.out).mono ?_; rintro e w1 ⟨v, rfl, hS, hb⟩; have ho := Own.new hS HB.out.size; clear hS; obtain ⟨Av, cv, rfl, hcv⟩ := ho.slice; (try clear HT HTc); (try clear HDT); (try have HDT := Aside0.mk HW.out.hi); (try (have n_ := Aside0.mk (HW.out.below hb); clear HW; have HW := n_)); (try (have n_ := Aside0.mk (HX.out.below hb); clear HX; have HX := n_)); (try (have n_ := Aside0.mk (HG.out.below hb); clear HG; have HG := n_)); (try (have n_ := Aside0.mk (HT.out.below hb); clear HT; have HT := n_)); (try (have n_ := Aside0.mk (HG1.out.below hb); clear HG1; have HG1 := n_)); (have n_ := Aside0.mk (below_step HB.out hb)); clear HB; have HB := n_; clear hb; have HT := Aside0.mk ho; have HTc := Aside0.mk hcv; clear ho hcv)
  | (go_at_call 37; refine (HSP.out _ _ _ HT.out.reads HTc.out).mono ?_; rintro e w1 ⟨Aw, cw, rfl, hcw, hC, hb⟩; have ho := Old.new heap_M hC; clear hC; clear HT HTc; (try (have n_ := Aside0.mk (HW.out.below hb); clear HW; have HW := n_)); (try (have n_ := Aside0.mk (HX.out.below hb); clear HX; have HX := n_)); (try (have n_ := Aside0.mk (HG.out.below hb); clear HG; have HG := n_)); (try (have n_ := Aside0.mk (HT.out.below hb); clear HT; have HT := n_)); (try (have n_ := Aside0.mk (HG1.out.below hb); clear HG1; have HG1 := n_)); (have n_ := Aside0.mk (below_step HB.out hb)); clear HB; have HB := n_; clear hb; have HW := Aside0.mk ho; have HWc := Aside0.mk hcw; clear ho hcw)
  | (go_at_call 38; have hg_ := HG; clear hg_; refine (HIM.out _ _ _ HT.out.reads HTc.out).mono ?_; rintro e w1 ⟨v, rfl, hS, hb⟩; have ho := OwnM.new hS HB.out.size; clear hS; obtain ⟨Ah, ch, rfl, hch⟩ := ho.slice; clear HT HTc; (try (have n_ := Aside0.mk (HW.out.below hb); clear HW; have HW := n_)); (try (have n_ := Aside0.mk (HX.out.below hb); clear HX; have HX := n_)); (try (have n_ := Aside0.mk (HG.out.below hb); clear HG; have HG := n_)); (try (have n_ := Aside0.mk (HT.out.below hb); clear HT; have HT := n_)); (try (have n_ := Aside0.mk (HG1.out.below hb); clear HG1; have HG1 := n_)); (have n_ := Aside0.mk (below_step HB.out hb)); clear HB; have HB := n_; clear hb; have HG1 := Aside0.mk ho; have HG1c := Aside0.mk hch; clear ho hch)
  | (go_at_call 38; refine (HIM.out _ _ _ HT.out.reads HTc.out).mono ?_; rintro e w1 ⟨v, rfl, hS, hb⟩; have ho := OwnM.new hS HB.out.size; clear hS; obtain ⟨Ag, cg, rfl, hcg⟩ := ho.slice; have HD12 := HDT; have HD23 := Aside0.mk HT.out.hi; have HD13 := Aside0.mk HW.out.hi; clear HDT; have HX := HT; have HXc := HTc; clear HT HTc; (try (have n_ := Aside0.mk (HW.out.below hb); clear HW; have HW := n_)); (try (have n_ := Aside0.mk (HX.out.below hb); clear HX; have HX := n_)); (try (have n_ := Aside0.mk (HG.out.below hb); clear HG; have HG := n_)); (try (have n_ := Aside0.mk (HT.out.below hb); clear HT; have HT := n_)); (try (have n_ := Aside0.mk (HG1.out.below hb); clear HG1; have HG1 := n_)); (have n_ := Aside0.mk (below_step HB.out hb)); clear HB; have HB := n_; clear hb; have HG := Aside0.mk ho; have HGc := Aside0.mk hcg; clear ho hcg)
  | (go_at_call 20; (with_reducible refine (HEL.out _ _ _ _ _ HX.out.reads HXc.out HT.out.reads HTc.out).mono ?_); rintro e w1 ⟨rfl, hd⟩; have hb := hd.below; clear hd; (try (have n_ := Aside0.mk (HW.out.below hb); clear HW; have HW := n_)); (try (have n_ := Aside0.mk (HX.out.below hb); clear HX; have HX := n_)); (try (have n_ := Aside0.mk (HG.out.below hb); clear HG; have HG := n_)); (try (have n_ := Aside0.mk (HT.out.below hb); clear HT; have HT := n_)); (try (have n_ := Aside0.mk (HG1.out.below hb); clear HG1; have HG1 := n_)); (have n_ := Aside0.mk (below_step HB.out hb)); clear HB; have HB := n_; clear hb)
  | (go_at_call 39; (first | (with_reducible refine (HER.out _ _ _ _ _ HG.out.reads HGc.out HW.out.reads HWc.out).mono ?_) | (with_reducible refine (HER.out _ _ _ _ _ HG1.out.reads HG1c.out HW.out.reads HWc.out).mono ?_)); rintro e w1 ⟨rfl, hd⟩; have hb := hd.below; clear hd; (try (have n_ := Aside0.mk (HW.out.below hb); clear HW; have HW := n_)); (try (have n_ := Aside0.mk (HX.out.below hb); clear HX; have HX := n_)); (try (have n_ := Aside0.mk (HG.out.below hb); clear HG; have HG := n_)); (try (have n_ := Aside0.mk (HT.out.below hb); clear HT; have HT := n_)); (try (have n_ := Aside0.mk (HG1.out.below hb); clear HG1; have HG1 := n_)); (have n_ := Aside0.mk (below_step HB.out hb)); clear HB; have HB := n_; clear hb)
  | (go_at_call 21; (with_reducible refine (HMX.out _ _ _ _ HB.out HX.out).mono ?_); rintro e w1 ⟨rfl, ho, hb, hk⟩; have n1_ := Aside0.mk (HW.out.kept hk HD12.out); have n2_ := Aside0.mk (HG.out.kept hk (.inr HD23.out)); clear HW HG HX HXc HB ho hk HT HTc HEL; have HW := n1_; have HG := n2_; have HB := Aside0.mk hb; clear n1_ n2_ hb)
  | (go_at_call 40; (with_reducible refine (HMG.out _ _ _ _ HB.out HG.out).mono ?_); rintro e w1 ⟨rfl, ho, hb, hk⟩; have n1_ := Aside0.mk (HW.out.kept hk HD13.out); clear HW HG HB hk; have HW := n1_; have HG := Aside0.mk ho; have HB := Aside0.mk hb; clear n1_ hb ho)
  | (go_at_call 41; (with_reducible refine (HHE.out _ _ _ (HG.out.reads' HML.out) HGc.out).mono ?_); rintro e w1 ⟨rfl, hd⟩; have hb := hd.below; clear hd; (try (have n_ := Aside0.mk (HW.out.below hb); clear HW; have HW := n_)); (try (have n_ := Aside0.mk (HX.out.below hb); clear HX; have HX := n_)); (try (have n_ := Aside0.mk (HG.out.below hb); clear HG; have HG := n_)); (try (have n_ := Aside0.mk (HT.out.below hb); clear HT; have HT := n_)); (try (have n_ := Aside0.mk (HG1.out.below hb); clear HG1; have HG1 := n_)); (have n_ := Aside0.mk (below_step HB.out hb)); clear HB; have HB := n_; clear hb))
 go_ret
 exact ⟨rfl, HB.out⟩
theorem skipGyrationOrbit (A : Option Addr) (cap : Nat) (l : List (List Int)) (W : World) (h : RowsIn W A l.length cap l) (t : Int) (ht : t < 0) (k0 : Nat) (hsz : laws_szIntSS.f k0 l 1048576 = some t) :
  Calls Try.prog 11 #[.slice A l.length cap] W fun e w' => e = .returned (.bool true) ∧ Below W.heap.size W w' := by
 have HSZ := Aside0.mk (laws_szIntSS.calls k0 A cap l 1048576 t W h.read h.le hsz)
 have htd : decide (t < 0) = true := decide_eq_true ht
 clear h hsz
 go_enter Try.func11, Try.ntmps11
 go_wp2_with (go_at_call 16; refine HSZ.out.mono ?_; rintro e w1 ⟨rfl, hd⟩; have hb := hd.below; clear hd)
 go_ret
 exact ⟨rfl, hb⟩
/-- The law, out of the two functions' contracts. -/
theorem lawGyrationOrbit (A : Option Addr) (cap : Nat) (l : List (List Int)) (W : World) (h : RowsIn W A l.length cap l)
  (hboth : fewRows l → ∃ (r : List (List (List Int))) (b : Bool), fewM r ∧
   (∀ (W' : World) (A' : Option Addr) (c' : Nat), Kd.C (Kd.slice 3 (Kd.int .i64)) W' A' l.length l → l.length ≤ c' → Calls Try.prog 37 #[.slice A' l.length c'] W' (RetC (Kd.slice 43 (Kd.slice 3 (Kd.int .i64))) W' r b)) ∧
   (∀ (W' : World) (A' : Option Addr) (c' : Nat), Kd.C (Kd.slice 3 (Kd.int .i64)) W' A' l.length l → l.length ≤ c' → Calls Try.prog 38 #[.slice A' l.length c'] W' (RetTM W' r b))) :
  Calls Try.prog 11 #[.slice A l.length cap] W fun e w' => e = .returned (.bool true) ∧ Below W.heap.size W w' := by
 obtain ⟨t, ht, hd⟩ := szIntSS_in h
 obtain ⟨k, hk⟩ := ht.rounds
 by_cases hn : t < 0
 ·exact skipGyrationOrbit A cap l W h t hn k hk
 ·have hf := hd.resolve_left hn
  obtain ⟨r, b, hr, h1, h2⟩ := hboth hf
  exact walkGyrationOrbit A cap l r b W h hf hr t hn k hk h1 h2
end Go.Proofs.Ytflhhbpgkjpbdaa.Law
