/- Texts of one chain, in build order. -/
import Derived.Test.YtkiloimggmpggaaYLambdaSum17
namespace Go.Proofs.Ytkiloimggmpggaa
open Go.RowKit Go.Proofs.Ytkiloimggmpggaa.P Go.Proofs.Ytkiloimggmpggaa.L Go.Proofs.YtkiloimggmpggaaW.PrintWords Go.Proofs.YtkiloimggmpggaaW.PrintLast Go.Proofs.YtkiloimggmpggaaW.PrintMore
set_option linter.unusedVariables false
set_option linter.unusedSimpArgs false

theorem own_at' {g j n c : Nat} (h : some j = (Value.slice (some ⟨g, 0, none⟩) n c).ownBlock) : j = g := by simpa [Value.ownBlock] using h
mutual
def srL : Nat → Int → List Int → Int → Int → Option (List (List Int))
 | 0, _, _, _, _ => none
 | k + 1, n, row, s, x => if x ≤ 1 - s then (srE k n (row ++ [x]) (s + x)).bind fun a => (srL k n row s (x + 1)).bind fun b => some (a ++ b) else some []
def srE : Nat → Int → List Int → Int → Option (List (List Int))
 | 0, _, _, _ => none
 | k + 1, n, row, s => if (row.length : Int) = n then some (if s = 1 then [row] else []) else srL k n row s (-s)
end
/-- The variables of the closure. -/
structure SrEnv (W : World) (bn bo ba : Nat) (n : Int) (v : Value) : Prop where
 num : W.heap[bn]? = some (.cells #[.int .i64 n] 3 (0, 0))
 out : W.heap[bo]? = some (.cells #[v] 22 (0, 0))
 add : W.heap[ba]? = some (.cells #[.func (.func 72) #[] #[.pointer (some ⟨bn, 0, none⟩), .pointer (some ⟨bo, 0, none⟩), .pointer (some ⟨ba, 0, none⟩)]] 69 (0, 0))
 ne : bn ≠ bo ∧ bn ≠ ba ∧ bo ≠ ba
theorem SrEnv.touch {W W' : World} {bn bo ba : Nat} {n : Int} {v : Value} {S : Nat → Prop} (h : SrEnv W bn bo ba n v) (ht : Touch W W' S) (h0 : ¬ S bn) (h1 : ¬ S bo) (h2 : ¬ S ba) : SrEnv W' bn bo ba n v :=
 ⟨ht.blk h.num h0, ht.blk h.out h1, ht.blk h.add h2, h.ne⟩
theorem SrEnv.below {W W' : World} {bn bo ba : Nat} {n : Int} {v : Value} (h : SrEnv W bn bo ba n v) (hb : Below W.heap.size W W') : SrEnv W' bn bo ba n v := h.touch (Touch.of_below hb (fun _ => False)) id id id
theorem SrEnv.put {W : World} {bn bo ba : Nat} {n : Int} {v : Value} (h : SrEnv W bn bo ba n v) (v' : Value) : SrEnv (W.setCell ⟨bo, 0, none⟩ v') bn bo ba n v' :=
 ⟨blk_far h.num (by have := h.ne; exact fun e => this.1 e) _, blk_put h.out 0 v' rfl, blk_far h.add (by have := h.ne; exact fun e => this.2.2 e.symm) _, h.ne⟩
def okN (B bo bn ba : Nat) : Nat → Prop := fun k => okD bo bn ba k ∧ B ≤ k
def SrPost (W : World) (B bn bo ba : Nat) (n : Int) (v : Value) (L : List (List Int)) (e : Ending) (W' : World) : Prop :=
 e = .returned (.tuple #[]) ∧ ∃ v', SrEnv W' bn bo ba n v' ∧ Kd.N (Kd.slice 3 (Kd.int .i64)) 38 W' B (okN B bo bn ba) v' L ∧ Touch W W' (tD bo v) ∧ ∀ k, some k = v'.ownBlock → some k = v.ownBlock ∨ W.heap.size ≤ k
theorem info_intsO : (Try.prog.info? 3).map (fun i => (i.zero, i.size, i.bytes)) = some (some (.int .i64 0), 1, 8) := by kernel_rfl
theorem one_C1 (w : World) (a : Int) : Kd.C (Kd.int .i64) (w.alloc (.cells #[.int .i64 a] 3)) (some ⟨w.heap.size, 0, none⟩) ([a] : List Int).length [a] := by
 have h : intBlk (w.alloc (.cells #[.int .i64 a] 3)) w.heap.size [a] := blk_new w _
 exact (Kd.R_reads' (intBlk_R (base := 0) (ok := fun _ => True) h (Nat.zero_le _) trivial (by simp))).2.2
/-- A row has been appended to what the variable out holds. -/
theorem sr_app {W w4 : World} {B bn bo ba : Nat} {n : Int} {v v4 : Value} {L L1 : List (List Int)} (henv : SrEnv W bn bo ba n v) (hS : Kd.N (Kd.slice 3 (Kd.int .i64)) 38 W B (okN B bo bn ba) v L)
  (hg : W.grownBy w4 v.ownBlock) (ho : Kd.N (Kd.slice 3 (Kd.int .i64)) 38 w4 B (okN B bo bn ba) v4 L1) (hat : v4.ownBlock = v.ownBlock ∨ ∃ b, v4.ownBlock = some b ∧ W.heap.size ≤ b) :
  w4.cell? ⟨bo, 0, none⟩ = some v ∧ w4.frozen? ⟨bo, 0, none⟩ = false ∧ SrEnv (w4.setCell ⟨bo, 0, none⟩ v4) bn bo ba n v4 ∧ Kd.N (Kd.slice 3 (Kd.int .i64)) 38 (w4.setCell ⟨bo, 0, none⟩ v4) B (okN B bo bn ba) v4 L1 ∧ Touch W (w4.setCell ⟨bo, 0, none⟩ v4) (tD bo v) ∧ (∀ k, some k = v4.ownBlock → some k = v.ownBlock ∨ W.heap.size ≤ k) := by
 have hv : ∀ k, some k = v.ownBlock → okD bo bn ba k := fun k e => (hS.1 k e.symm).1
 have ht : Touch W w4 (fun k => some k = v.ownBlock) := ⟨hg.os, hg.tape, hg.output, hg.size, fun i hi hn => hg.block i hi hn⟩
 have h1 := henv.touch ht (fun e => (hv _ e).2.1 rfl) (fun e => (hv _ e).1 rfl) (fun e => (hv _ e).2.2 rfl)
 refine ⟨blk_cell h1.out 0, blk_frozen h1.out 0, h1.put v4, Kd.N_far ho (fun k hk => hk.1.1) v4, (ht.mono (fun k hk => .inr hk)).set ⟨bo, 0, none⟩ (.inl (.inl rfl)) v4, fun k hk => ?_⟩
 rcases hat with e | ⟨b, e, hle⟩
 ·exact .inl (hk.trans e)
 ·rw [e] at hk; injection hk with hk; exact .inr (by omega)
set_option maxHeartbeats 4000000 in
set_option maxRecDepth 100000 in
theorem signRows_1.calls (B : Nat) (w0 : World) (bn bo ba : Nat) (n : Int) (hBo : B ≤ bo) : ∀ (k : Nat) (row : List Int) (s : Int) (X L : List (List Int)) (A : Option Addr) (c : Nat) (v : Value) (W : World),
  srE k n row s = some X → row.length + k ≤ 100000 → 0 ≤ s → s ≤ 1 → (L ++ X).length ≤ 1000000 →
  SrEnv W bn bo ba n v → Below B w0 W → B ≤ W.heap.size → Kd.N (Kd.slice 3 (Kd.int .i64)) 38 W B (okN B bo bn ba) v L →
  Kd.F (Kd.int .i64) W (fun k => frD W bo v k ∧ okN B bo bn ba k) A row.length row → row.length ≤ c →
  Calls Try.prog 72 #[.slice A row.length c, .int .i64 s, .pointer (some ⟨bn, 0, none⟩), .pointer (some ⟨bo, 0, none⟩), .pointer (some ⟨ba, 0, none⟩)] W (SrPost W B bn bo ba n v (L ++ X)) := by
 intro k
 induction k using Nat.strongRecOn with
 | _ k ih =>
 intro row s X L A c v W hX hlen hs0 hs1 hlx henv hb hBW hN hF hc
 cases k with
 | zero => simp [srE] at hX
 | succ k =>
 rw [srE] at hX
 have eg : ∀ args w, (callFunc 72 args).run Try.prog w = .ok (.enter 72 args) w := enters_of Try.func72 (by kernel_rfl) rfl
 have hnum : W.cell? ⟨bn, 0, none⟩ = some (.int .i64 n) := blk_cell henv.num 0
 have hout : W.cell? ⟨bo, 0, none⟩ = some v := blk_cell henv.out 0
 have hrl : row.length ≤ 100000 := by omega
 have HENV := Aside0.mk henv
 have HB := Aside0.mk hb
 have HBW := Aside0.mk hBW
 have HN := Aside0.mk hN
 have HF := Aside0.mk hF
 have HC := Aside0.mk hc
 have HBO := Aside0.mk hBo
 obtain ⟨A0, c0, rfl⟩ := Kd.N_slice hN
 clear hb hBW hF hc hBo henv hN
 by_cases hrn : (row.length : Int) = n
 ·rw [if_pos hrn] at hX
  obtain rfl := Option.some.inj hX
  clear hX ih
  have hnd : ((row.length : Int) == n) = true := by simp [hrn]
  by_cases hs : s = 1
  ·rw [if_pos hs] at hlx ⊢
   have hsd : (s == 1) = true := by simp [hs]
   obtain ⟨L1, hL1⟩ : ∃ L1, L1 = L ++ [row] := ⟨_, rfl⟩
   have HL1 := Aside0.mk hL1
   rw [← hL1] at hlx ⊢
   have HLL := Aside0.mk (show (L.length + 1) * 24 ≤ 140737488355328 by have := hlx; rw [hL1, List.length_append] at this; simp at this; omega)
   clear hL1 hrn hs
   go_enter Try.func72, Try.ntmps72
   go_wp2_with ((with_reducible refine gate_builtin (b := .append) (xs := #[.tmp 14, .tmp 16]) rfl ?_); at_builtin; refine Kd.N_append (Kd.slice 3 (Kd.int .i64)) (w0 := w0) B rfl (.tmp 14) (.tmp 16) 22 38 (.slice none 0 0) 24 rfl Try.underlying22 info_rowsU rfl (by decide) (by omega) (.slice A0 L.length c0) L row [.slice A row.length c] (okN B bo bn ba) (fun k => frD W bo (.slice A0 L.length c0) k ∧ okN B bo bn ba k) rfl rfl (Kd.FK_slice_mk HC.out HF.out) (fun k hk => ⟨hk.2, hk.1.1.2⟩) (fun k hk => by have h1 := blk_lt HENV.out.out; have h2 := blk_lt HENV.out.num; have h3 := blk_lt HENV.out.add; have h4 := HBW.out; exact ⟨⟨by omega, by omega, by omega⟩, by omega⟩) HN.out HB.out HBW.out HLL.out ?_; intro v4 w4 ho4 hb4 hg4 hat4; rw [← HL1.out] at ho4; obtain ⟨A4, c4, rfl⟩ := Kd.N_slice ho4; obtain ⟨hk4, hf4, he4, hs4, ht4, hv4⟩ := sr_app HENV.out HN.out hg4 ho4 hat4; have HE4 := Aside0.mk he4; have HS4 := Aside0.mk hs4; have HT4 := Aside0.mk ht4; have HV4 := Aside0.mk hv4; clear ho4 hb4 hg4 hat4 he4 hs4 ht4 hv4)
   go_end0
   exact ⟨rfl, _, HE4.out, HS4.out, HT4.out, HV4.out⟩
  ·rw [if_neg hs] at hlx ⊢
   have hsd : (s == 1) = false := by simp [hs]
   rw [List.append_nil]
   clear hrn hs
   go_enter Try.func72, Try.ntmps72
   go_wp2
   go_end0
   exact ⟨rfl, _, HENV.out, HN.out, Touch.refl _ _, fun k h => .inl h⟩
 ·rw [if_neg hrn] at hX
  have hnd : ((row.length : Int) == n) = false := by simp [hrn]
  obtain ⟨XX, hXX⟩ : ∃ XX, XX = L ++ X := ⟨_, rfl⟩
  rw [← hXX] at hlx ⊢
  have HM := Aside0.mk hX
  have HXT := Aside0.mk hlx
  have HX := Aside0.mk hXX.symm
  have IH := Aside0.mk ih
  have HLEN := Aside0.mk hlen
  clear hX hlx hXX ih hlen hrn
  go_enter Try.func72, Try.ntmps72
  go_wp2
  go_loopg [7] k (fun kq v7 wr => ∃ (x : Int) (L2 Y : List (List Int)) (v2 : Value), v7 = .int .i64 x ∧ -s ≤ x ∧ x ≤ 2 - s ∧ Aside0 (srL kq n row s x = some Y) ∧ Aside0 (kq ≤ k) ∧ Aside0 (L2 ++ Y = XX) ∧ Aside0 (SrEnv wr bn bo ba n v2) ∧ Aside0 (Kd.N (Kd.slice 3 (Kd.int .i64)) 38 wr B (okN B bo bn ba) v2 L2) ∧ Aside0 (Touch W wr (tD bo (.slice A0 L.length c0))) ∧ Aside0 (∀ k, some k = v2.ownBlock → some k = (Value.slice A0 L.length c0).ownBlock ∨ W.heap.size ≤ k) ∧ Aside0 (Below B w0 wr))
  case atStart => exact ⟨-s, L, X, _, by go_num, by omega, by omega, HM, ⟨Nat.le_refl _⟩, HX, HENV, HN, ⟨Touch.refl _ _⟩, ⟨fun k h => .inl h⟩, HB⟩
  case round =>
   clear HM HX HENV HN HB
   obtain ⟨x, L2, Y, v2, rfl, hx0, hx1, HM, HK, HX, HENV, HN, HT, HV, HB⟩ := hrel
   cases gk with
   | zero => exact absurd HM.out (by simp [srL])
   | succ k3 =>
   have H := HM.out
   rw [srL] at H
   by_cases hxs : x ≤ 1 - s
   ·rw [if_pos hxs] at H
    obtain ⟨a, ha, H⟩ := Option.bind_eq_some_iff.1 H
    obtain ⟨b2, hb2, H⟩ := Option.bind_eq_some_iff.1 H
    obtain rfl := Option.some.inj H
    have hxd : decide (x ≤ 1 - s) = true := decide_eq_true hxs
    have HA := Aside0.mk ha
    have HB2 := Aside0.mk hb2
    have HFr := Aside0.mk (Kd.F_mono (ok' := fun k => frD wr bo v2 k ∧ okN B bo bn ba k) (HT.out.F HF.out (fun k hk h => h.elim hk.1.1.1 hk.1.1.2)) (fun k hk => ⟨frD_step HT.out HV.out k hk.1, hk.2⟩))
    have hk1 : wr.cell? ⟨ba, 0, none⟩ = some (.func (.func 72) #[] #[.pointer (some ⟨bn, 0, none⟩), .pointer (some ⟨bo, 0, none⟩), .pointer (some ⟨ba, 0, none⟩)]) := blk_cell HENV.out.add 0
    have hk2 : wr.cell? ⟨bn, 0, none⟩ = some (.int .i64 n) := blk_cell HENV.out.num 0
    have HBC := Aside0.mk (Below.refl wr.heap.size wr)
    have HCL := Aside0.mk (fun W' (hb : Below wr.heap.size wr W') => slices_Clone_int_int.calls A c row row W' (Kd.F_now (Kd.F_below HFr.out hb)) HC.out (by unfold slices_Clone_int_int.f; rw [if_pos (by omega)]))
    have HLR := Aside0.mk (show (row.length + 1) * 8 ≤ 140737488355328 by omega)
    have HNW := Aside0.mk (show ∀ Wc : World, Below wr.heap.size wr Wc → ∀ k, (wr.heap.size ≤ k ∧ k < Wc.heap.size) → frD Wc bo v2 k ∧ okN B bo bn ba k from fun Wc hbc k hk => by
     have h1 := blk_lt HENV.out.out
     have h2 := blk_lt HENV.out.num
     have h3 := blk_lt HENV.out.add
     have h4 := HBW.out
     have h5 := HT.out.size
     exact ⟨⟨⟨by omega, fun e => by have := Kd.N_lt HN.out k e.symm; omega⟩, hk.2⟩, ⟨by omega, by omega, by omega⟩, by omega⟩)
    obtain ⟨nx, hnx⟩ : ∃ nx, nx = row ++ [x] := ⟨_, rfl⟩
    have HNX := Aside0.mk hnx
    have HNL := Aside0.mk (show nx.length = row.length + 1 by rw [hnx]; simp)
    rw [← hnx] at HA
    have HBB := Aside0.mk (show B ≤ wr.heap.size from Nat.le_trans HBW.out HT.out.size)
    have hsw : IntKind.i64.wrap (s + x) = s + x := i64_of _ (by omega) (by omega)
    clear HM H ha hb2 hnx
    go_wp2
    go_region_held3 (fun W1 => W1.cell? ⟨ba, 0, none⟩ = some (.func (.func 72) #[] #[.pointer (some ⟨bn, 0, none⟩), .pointer (some ⟨bo, 0, none⟩), .pointer (some ⟨ba, 0, none⟩)]) ∧ W1.cell? ⟨bn, 0, none⟩ = some (.int .i64 n)) (first | (exact ⟨hk1, hk2⟩) | (exact ⟨hq1, hq2⟩) | (have hh_ := ‹_ ∧ _›; exact ⟨pw_cell_below (below_alloc (Below.refl _ _) _) hh_.1, pw_cell_below (below_alloc (Below.refl _ _) _) hh_.2⟩)) (first
     | (go_at_call 73; (refine (HCL.out _ ?hbY).mono ?_); (case hbY => exact (by repeat (first | exact HBC.out | refine below_alloc ?_ _ | refine below_drew ?_))); rintro e w2 ⟨vc, rfl, hR2, hb2⟩; obtain ⟨A2, c2, rfl⟩ := Kd.R_slice hR2; have r_ := fun (h : Below wr.heap.size wr _) => Aside0.mk (Kd.R_lower (Kd.R_mono (ok' := fun k => wr.heap.size ≤ k) (Kd.R_bound hR2) (fun k hk => Nat.le_trans h.size hk.2.1)) h.size); have HR2 := r_ (by repeat (first | exact HBC.out | refine below_alloc ?_ _ | refine below_drew ?_)); clear r_; have n_ := fun h => Aside0.mk (Below.trans (B := wr.heap.size) h (hb2.mono (Below.size h))); have m_ := n_ (by repeat (first | exact HBC.out | refine below_alloc ?_ _ | refine below_drew ?_)); clear n_ HBC; have HBC := m_; clear m_; have HBZ := Aside0.mk hb2; (try clear hq1 hq2); have hq1 := pw_cell_below HBC.out hk1; have hq2 := pw_cell_below HBC.out hk2; clear hR2 hb2)
     | (refine Kd.R_append_rows_step (Rr := fun x cs => cs = [Value.int .i64 x]) (Kd.int .i64) (w0 := wr) wr.heap.size (by rfl) (.tmp 28) (.tmp 30) 38 3 (.int .i64 0) 8 (by rfl) Try.underlying38 info_intsO rfl (by decide) (by omega) (.slice A2 row.length c2) row [x] (some ⟨_, 0, none⟩) 1 1 (fun k => wr.heap.size ≤ k) (fun _ => False) (by rfl) (by rfl) (by repeat (first | exact HR2.out | refine Kd.R_alloc ?_ _ | refine Kd.R_drew ?_)) (by first | exact one_C1 _ _ | exact Kd.C_drew (one_C1 _ _) | exact Kd.C_below (one_C1 _ _) HBZ.out | exact Kd.C_below (Kd.C_drew (one_C1 _ _)) HBZ.out) (fun _ _ h => h) (fun _ h => h.elim) (fun j hj => Nat.le_trans ?hs1 hj) ?hB ?hs2 HLR.out ?_; (case hs1 => (refine Below.size (?_ : Below wr.heap.size wr _); repeat (first | exact HBC.out | refine below_alloc ?_ _ | refine below_drew ?_))); (case hB => repeat (first | exact HBC.out | refine below_alloc ?_ _ | refine below_drew ?_)); (case hs2 => (refine Below.size (?_ : Below wr.heap.size wr _); repeat (first | exact HBC.out | refine below_alloc ?_ _ | refine below_drew ?_))); intro v9 w9 ho9 hb9 hg9 hat9; rw [← HNX.out] at ho9; obtain ⟨A9, c9, rfl⟩ := Kd.R_slice ho9; have HF9 := Aside0.mk (Kd.R_F ho9); have HC9 := Aside0.mk (Kd.R_reads' ho9).2.1; clear HBC; have HBC := Aside0.mk hb9; (try clear hq1 hq2); have hq1 := pw_cell_below hb9 hk1; have hq2 := pw_cell_below hb9 hk2; clear ho9 hb9 hg9 hat9)
     | (go_at_fn 72; refine (IH.out k3 (by have := HK.out; omega) nx (s + x) a L2 A9 c9 v2 _ HA.out (by have := HK.out; have := HLEN.out; have := HNL.out; omega) (by omega) (by omega) (by have := HXT.out; rw [← HX.out] at this; simp only [List.length_append] at this ⊢; omega) (HENV.out.below HBC.out) (HB.out.trans (HBC.out.mono HBB.out)) (Nat.le_trans HBB.out HBC.out.size) (Kd.N_below HN.out HBC.out) (Kd.F_mono (Kd.F_bound HF9.out) (HNW.out _ HBC.out)) HC9.out).mono ?_; rintro e w4 ⟨rfl, v7, he7, hs7, ht7, hv7⟩; clear hq1 hq2; have hq1 := blk_cell he7.add 0; have hq2 := blk_cell he7.num 0; have HE7 := Aside0.mk he7; have HS7 := Aside0.mk hs7; have HT7 := Aside0.mk ht7; have HV7 := Aside0.mk hv7; clear he7 hs7 ht7 hv7))
    all_goals
     have HL5 := Aside0.mk (show (L2 ++ a) ++ b2 = XX by rw [List.append_assoc]; exact HX.out)
     have HMS := Aside0.mk (show ∀ k, tD bo v2 k → B ≤ k from fun k hk => hk.elim (fun e => e ▸ HBO.out) (fun e => Kd.N_base HN.out k e.symm))
     have HMB := Aside0.mk (show ∀ k, tD bo v2 k → tD bo (.slice A0 L.length c0) k ∨ W.heap.size ≤ k from fun k hk => hk.elim (fun e => .inl (.inl e)) (fun e => (HV.out k e).elim (fun h => .inl (.inr h)) .inr))
     go_wp2
     go_roundg k3
     case measure => have := HK.out; omega
     case rel => exact ⟨x + 1, L2 ++ a, b2, v7, by go_num, by omega, by omega, HB2, ⟨by have := HK.out; omega⟩, HL5, HE7, HS7, ⟨(HT.out.then_below HBC.out).trans HT7.out HMB.out⟩, ⟨fun k hk => (HV7.out k hk).elim (fun e => HV.out k e) (fun e => .inr (by have := HT.out.size; have := HBC.out.size; omega))⟩, ⟨(HB.out.trans (HBC.out.mono HBB.out)).trans (HT7.out.below HMS.out (Nat.le_trans HBB.out HBC.out.size))⟩⟩
   ·have hxd : decide (x ≤ 1 - s) = false := decide_eq_false hxs
    rw [if_neg hxs] at H
    obtain rfl := Option.some.inj H
    have HX3 := Aside0.mk (show L2 = XX by have := HX.out; rwa [List.append_nil] at this)
    clear H HM
    go_wp2
    go_end0
    exact ⟨rfl, v2, HENV.out, by rw [← HX3.out]; exact HN.out, HT.out, HV.out⟩
/-- Rows come back that are only read. -/
def RetNR (w : World) (T : List (List Int)) (e : Ending) (w' : World) : Prop := ∃ v0_ : Value, e = .returned (v0_) ∧ Kd.N (Kd.slice 3 (Kd.int .i64)) 38 w' w.heap.size (fun k => w.heap.size ≤ k) v0_ T ∧ Below w.heap.size w w'
set_option maxHeartbeats 2000000 in
theorem impl_signRows.callsG (n : Int) (k : Nat) (X : List (List Int)) (w : World) (h : srE k n [] 0 = some X) (hk : k ≤ 100000) (hX : X.length ≤ 1000000) :
  Calls Try.prog 55 #[.int .i64 n] w (RetNR w X) := by
 have eg : ∀ args w, (callFunc 72 args).run Try.prog w = .ok (.enter 72 args) w := enters_of Try.func72 (by kernel_rfl) rfl
 obtain ⟨W4, hW4⟩ : ∃ W4, W4 = ((((w.alloc (.cells #[.int .i64 n] 3)).alloc (.cells #[] 38)).alloc (.cells #[.slice (some ⟨w.heap.size + 1, 0, none⟩) 0 0] 22)).alloc (.cells #[.func (.func 72) #[] #[.pointer (some ⟨w.heap.size, 0, none⟩), .pointer (some ⟨w.heap.size + 1 + 1, 0, none⟩), .pointer (some ⟨w.heap.size + 1 + 1 + 1, 0, none⟩)]] 69)) := ⟨_, rfl⟩
 have hb4 : Below w.heap.size w W4 := by rw [hW4]; exact below_alloc (below_alloc (below_alloc (below_alloc (Below.refl _ _) _) _) _) _
 have hsz : W4.heap.size = w.heap.size + 1 + 1 + 1 + 1 := by rw [hW4]; simp
 have henv : SrEnv W4 w.heap.size (w.heap.size + 1 + 1) (w.heap.size + 1 + 1 + 1) n (.slice (some ⟨w.heap.size + 1, 0, none⟩) 0 0) := by
  rw [hW4]
  exact ⟨blk_alloc (blk_alloc (blk_alloc (blk_new_at (by simp)) _) _) _, blk_alloc (blk_new_at (by simp)) _, blk_new_at (by simp), by omega, by omega, by omega⟩
 have hemp : W4.heap[w.heap.size + 1]? = some (.cells #[] 38 (0, 0)) := by rw [hW4]; exact blk_alloc (blk_alloc (blk_new_at (by simp)) _) _
 have hcall := signRows_1.calls w.heap.size w w.heap.size (w.heap.size + 1 + 1) (w.heap.size + 1 + 1 + 1) n (by omega) k [] 0 X [] none 0 _ W4 h (by simpa using hk) (by omega) (by omega) (by simpa using hX) henv hb4 (by omega) (Kd.S_N (S_empty hemp (by omega) ⟨⟨by omega, by omega, by omega⟩, by omega⟩)) (Kd.F_nil _ _ _) (by simp)
 have HC := Aside0.mk hcall
 have HS := Aside0.mk hsz
 have HB := Aside0.mk hb4
 have HW4 := Aside0.mk hW4
 clear hcall hemp henv hb4 hsz hW4 h hk hX
 go_enter Try.func55, Try.ntmps55
 go_wp2_with (go_at_fn 72; rw [← HW4.out]; refine HC.out.mono ?_; rintro e w5 ⟨rfl, v5, he5, hs5, ht5, _⟩; have hx5 : w5.cell? ⟨w.heap.size + 1 + 1, 0, none⟩ = some v5 := blk_cell he5.out 0; have HS5 := Aside0.mk hs5; have HT5 := Aside0.mk ht5; clear he5 hs5 ht5)
 go_ret
 exact ⟨_, rfl, Kd.N_mono (by have := HS5.out; rwa [List.nil_append] at this) (fun _ (h : okN _ _ _ _ _) => h.2), HB.out.trans (HT5.out.below (fun k hk => hk.elim (fun e => by omega) (fun e => by have := own_at' e; omega)) (by have := HS.out; omega))⟩
end Go.Proofs.Ytkiloimggmpggaa
