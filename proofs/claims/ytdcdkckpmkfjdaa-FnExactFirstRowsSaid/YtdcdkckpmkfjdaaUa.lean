/- The program's firstRows: what it makes. -/
import Derived.Test.YtdcdkckpmkfjdaaHA
import Derived.Laws.EntriesVeiled
namespace Go.Proofs.Ytdcdkckpmkfjdaa
open Go.RowKit Go.Proofs.YtdcdkckpmkfjdaaW.PrintWords Go.Proofs.YtdcdkckpmkfjdaaW.PrintLast Go.Proofs.YtdcdkckpmkfjdaaW.PrintMore
set_option linter.unusedVariables false
set_option linter.unusedSimpArgs false

mutual
/-- The rows that go on a row by a part of at least p. -/
def frL : Nat → Int → List Int → Int → Int → Option (List (List Int))
  | 0, _, _, _, _ => none
  | k + 1, n, row, most, p => if p ≤ most then (if ((row.length + 1 : Nat) : Int) < rd (row ++ [p]) 0 then (frE k n (row ++ [p])).bind fun a => (frL k n row most (p + 1)).bind fun b => some (a ++ b) else frL k n row most (p + 1)) else some []
/-- A row and all that go on it. -/
def frE : Nat → Int → List Int → Option (List (List Int))
  | 0, _, _ => none
  | k + 1, n, row => (frL k n row (if 0 < row.length then rd row ((row.length - 1 : Nat) : Int) else n) 1).bind fun b => some ((if 0 < row.length then [row] else []) ++ b)
end

/-- The variables of the closure. -/
structure FrEnv (W : World) (bo bn ba : Nat) (n : Int) (v : Value) : Prop where
  out : W.heap[bo]? = some (.cells #[v] 36 (0, 0))
  num : W.heap[bn]? = some (.cells #[.int .i64 n] 3 (0, 0))
  add : W.heap[ba]? = some (.cells #[.func (.func 131) #[] #[.pointer (some ⟨bo, 0, none⟩), .pointer (some ⟨bn, 0, none⟩), .pointer (some ⟨ba, 0, none⟩)]] 81 (0, 0))
  ne : bo ≠ bn ∧ bo ≠ ba ∧ bn ≠ ba
theorem FrEnv.touch {W W' : World} {bo bn ba : Nat} {n : Int} {v : Value} {S : Nat → Prop} (h : FrEnv W bo bn ba n v) (ht : Touch W W' S) (h0 : ¬ S bo) (h1 : ¬ S bn) (h2 : ¬ S ba) : FrEnv W' bo bn ba n v :=
  ⟨ht.blk h.out h0, ht.blk h.num h1, ht.blk h.add h2, h.ne⟩
theorem FrEnv.below {W W' : World} {bo bn ba : Nat} {n : Int} {v : Value} (h : FrEnv W bo bn ba n v) (hb : Below W.heap.size W W') : FrEnv W' bo bn ba n v := h.touch (Touch.of_below hb (fun _ => False)) id id id
theorem FrEnv.put {W : World} {bo bn ba : Nat} {n : Int} {v : Value} (h : FrEnv W bo bn ba n v) (v' : Value) : FrEnv (W.setCell ⟨bo, 0, none⟩ v') bo bn ba n v' :=
  ⟨blk_put h.out 0 v' rfl, blk_far h.num (by have := h.ne; exact fun e => this.1 e.symm) _, blk_far h.add (by have := h.ne; exact fun e => this.2.1 e.symm) _, h.ne⟩
/-- No block of a variable. -/
def okF (bo bn ba : Nat) : Nat → Prop := fun k => k ≠ bo ∧ k ≠ bn ∧ k ≠ ba
/-- What is written: the variable out, and its row. -/
def tF (bo : Nat) (v : Value) : Nat → Prop := fun k => k = bo ∨ some k = v.ownBlock
/-- What the closure leaves. -/
def FrPost (W : World) (B bo bn ba : Nat) (n : Int) (v : Value) (L : List (List Int)) (e : Ending) (W' : World) : Prop :=
  e = .returned (.tuple #[]) ∧ ∃ v', FrEnv W' bo bn ba n v' ∧ Kd.S (Kd.slice 3 (Kd.int .i64)) 22 W' B (okF bo bn ba) v' L ∧ Touch W W' (tF bo v) ∧ ∀ k, some k = v'.ownBlock → some k = v.ownBlock ∨ W.heap.size ≤ k

theorem Touch.of_grown {W W' : World} {v : Value} (h : W.grownBy W' v.ownBlock) : Touch W W' (fun k => some k = v.ownBlock) := ⟨h.os, h.tape, h.output, h.size, fun i hi hn => h.block i hi hn⟩
theorem slice3 {α : Type} {d : Kd α} {e : Nat} {W : World} {B : Nat} {ok : Nat → Prop} {v : Value} {xs : List α} (h : Kd.S d e W B ok v xs) : ∃ A n c, v = .slice A n c := by
  obtain ⟨A, c, rfl⟩ := Kd.R_slice (Kd.S_R h)
  exact ⟨A, _, c, rfl⟩
/-- A row has been appended to what the variable out holds. -/
theorem fr_app {W w1 : World} {B bo bn ba N0 nn : Nat} {n : Int} {v v1 : Value} {A : Option Addr} {L L1 : List (List Int)} {row : List Int} (henv : FrEnv W bo bn ba n v) (hS : Kd.S (Kd.slice 3 (Kd.int .i64)) 22 W B (fun k => okF bo bn ba k ∧ k < N0) v L)
    (hF : Kd.F (Kd.int .i64) W (fun k => (okF bo bn ba k ∧ N0 ≤ k) ∧ k < W.heap.size) A nn row)
    (hg : W.grownBy w1 v.ownBlock) (ho : Kd.S (Kd.slice 3 (Kd.int .i64)) 22 w1 B (okF bo bn ba) v1 L1) (hat : v1.ownBlock = v.ownBlock ∨ ∃ b, v1.ownBlock = some b ∧ W.heap.size ≤ b) :
    w1.cell? ⟨bo, 0, none⟩ = some v ∧ w1.frozen? ⟨bo, 0, none⟩ = false ∧ (w1.setCell ⟨bo, 0, none⟩ v1).cell? ⟨bn, 0, none⟩ = some (.int .i64 n) ∧ FrEnv (w1.setCell ⟨bo, 0, none⟩ v1) bo bn ba n v1 ∧ Kd.S (Kd.slice 3 (Kd.int .i64)) 22 (w1.setCell ⟨bo, 0, none⟩ v1) B (okF bo bn ba) v1 L1 ∧
      Kd.F (Kd.int .i64) (w1.setCell ⟨bo, 0, none⟩ v1) (fun k => (okF bo bn ba k ∧ N0 ≤ k) ∧ k < W.heap.size) A nn row ∧ Touch W (w1.setCell ⟨bo, 0, none⟩ v1) (tF bo v) ∧ (∀ k, some k = v1.ownBlock → some k = v.ownBlock ∨ W.heap.size ≤ k) := by
  have hv : ∀ k, some k = v.ownBlock → okF bo bn ba k ∧ k < N0 := fun k e => (Kd.S_R hS).1 k e.symm
  have ht := Touch.of_grown hg
  have h1 := henv.touch ht (fun e => (hv _ e).1.1 rfl) (fun e => (hv _ e).1.2.1 rfl) (fun e => (hv _ e).1.2.2 rfl)
  have ht2 : Touch W (w1.setCell ⟨bo, 0, none⟩ v1) (tF bo v) := (ht.mono (fun k hk => .inr hk)).set ⟨bo, 0, none⟩ (.inl (.inl rfl)) v1
  refine ⟨blk_cell h1.out 0, blk_frozen h1.out 0, blk_cell (h1.put v1).num 0, h1.put v1, Kd.S_far ho (fun k hk => hk.1) v1, ht2.F hF (fun k hk he => ?_), ht2, fun k hk => ?_⟩
  · rcases he with e | e
    · exact hk.1.1.1 e
    · have := (hv k e).2; have := hk.1.2; omega
  · rcases hat with e | ⟨b, e, hle⟩
    · exact .inl (hk.trans e)
    · rw [e] at hk; injection hk with hk; exact .inr (by omega)
theorem info_rows2 : (Try.prog.info? 22).map (fun i => (i.zero, i.size, i.bytes)) = some (some (.slice none 0 0), 1, 24) := by kernel_rfl
theorem info_ints2 : (Try.prog.info? 3).map (fun i => (i.zero, i.size, i.bytes)) = some (some (.int .i64 0), 1, 8) := by kernel_rfl
theorem rd_of (l : List Int) (i : Nat) (h : i < l.length) : rd l (i : Int) = l[i] := by simp [rd, List.getD_eq_getElem?_getD, h]
theorem i64_of (x : Int) (h0 : -9223372036854775808 ≤ x) (h1 : x ≤ 9223372036854775807) : IntKind.i64.wrap x = x := IntWalk.i64_in _ ⟨h0, h1⟩

set_option maxHeartbeats 4000000 in
set_option maxRecDepth 100000 in
theorem firstRows_1.calls (B : Nat) (w0 : World) (bo bn ba : Nat) (n : Int) (hn : n ≤ 100) (hBo : B ≤ bo) : ∀ (k : Nat) (row : List Int) (X L : List (List Int)) (N0 : Nat) (A : Option Addr) (c : Nat) (v : Value) (W : World),
    frE k n row = some X → row.length + k ≤ 100000 → (∀ x ∈ row, x ≤ 100) → (L ++ X).length ≤ 1000000 →
    FrEnv W bo bn ba n v → B ≤ N0 → N0 ≤ W.heap.size → bo < N0 → bn < N0 → ba < N0 → Below B w0 W →
    Kd.S (Kd.slice 3 (Kd.int .i64)) 22 W B (fun k => okF bo bn ba k ∧ k < N0) v L →
    Kd.R (Kd.int .i64) 3 W B (fun k => okF bo bn ba k ∧ N0 ≤ k) (.slice A row.length c) row →
    Calls Try.prog 131 #[.slice A row.length c, .pointer (some ⟨bo, 0, none⟩), .pointer (some ⟨bn, 0, none⟩), .pointer (some ⟨ba, 0, none⟩)] W (FrPost W B bo bn ba n v (L ++ X)) := by
  intro k
  induction k using Nat.strongRecOn with
  | _ k ih =>
  intro row X L N0 A c v W hX hlen hrow hlx henv hBN hNW ho1 ho2 ho3 hb hS hR
  cases k with
  | zero => simp [frE] at hX
  | succ k =>
  rw [frE] at hX
  obtain ⟨b, hb1, hb2⟩ := Option.bind_eq_some_iff.1 hX
  obtain rfl := Option.some.inj hb2
  clear hb2 hX
  obtain ⟨XX, hXX⟩ : ∃ XX, XX = L ++ ((if 0 < row.length then [row] else []) ++ b) := ⟨_, rfl⟩
  rw [← hXX] at hlx ⊢
  have eg : ∀ args w, (callFunc 131 args).run Try.prog w = .ok (.enter 131 args) w := enters_of Try.func131 (by kernel_rfl) rfl
  have IH := Aside0.mk ih
  have HW0 := Aside0.mk hrow
  have HF := Aside0.mk (Kd.R_F hR)
  have HC := Aside0.mk (Kd.R_reads' hR).2.1
  have HXT := Aside0.mk hlx
  have HLEN := Aside0.mk hlen
  have HBW := Aside0.mk hb
  have HBO := Aside0.mk hBo
  have HN := Aside0.mk (And.intro hBN (And.intro hNW (And.intro ho1 (And.intro ho2 ho3))))
  have hout : W.cell? ⟨bo, 0, none⟩ = some v := blk_cell henv.out 0
  have hnum : W.cell? ⟨bn, 0, none⟩ = some (.int .i64 n) := blk_cell henv.num 0
  have hle1 : row.length ≤ 1000000 := by omega
  have hbN : bo < W.heap.size ∧ bn < W.heap.size ∧ ba < W.heap.size := ⟨by omega, by omega, by omega⟩
  have HV := Aside0.mk (fun k (e : some k = v.ownBlock) => (Kd.S_R hS).1 k e.symm)
  clear ih hb hBo
  by_cases hr : row = []
  case pos =>
    subst hr
    rw [if_neg (by simp)] at hb1 hXX
    obtain ⟨most, hmost⟩ : ∃ m, m = n := ⟨_, rfl⟩
    rw [← hmost] at hnum hn
    have HM := Aside0.mk (show frL k n [] most 1 = some b by rw [hmost]; exact hb1)
    obtain ⟨L1, hL1⟩ : ∃ L1, L1 = L := ⟨_, rfl⟩
    have HL1 := Aside0.mk (show L1 ++ b = XX by rw [hXX, hL1]; rfl)
    have HENV1 := Aside0.mk henv
    have HS1 := Aside0.mk (show Kd.S (Kd.slice 3 (Kd.int .i64)) 22 W B (okF bo bn ba) v L1 by rw [hL1]; exact Kd.S_mono hS (fun k hk => hk.1))
    have HF1 := Aside0.mk (Kd.F_bound HF.out)
    have HT1 := Aside0.mk (Touch.refl W (tF bo v))
    have HAT1 := Aside0.mk (fun k (h : some k = v.ownBlock) => (Or.inl h : some k = v.ownBlock ∨ W.heap.size ≤ k))
    have HB1 := Aside0.mk HBW.out
    obtain ⟨v1, hv1⟩ : ∃ v1, v1 = v := ⟨_, rfl⟩
    rw [← hv1] at HENV1 HS1
    have HAT1 := Aside0.mk (show ∀ k, some k = v1.ownBlock → some k = v.ownBlock ∨ W.heap.size ≤ k by rw [hv1]; exact HAT1.out)
    clear hS hR hlx hrow hlen henv hBN hNW ho1 ho2 ho3 hb1 hXX hL1 hmost hv1
    go_enter Try.func131, Try.ntmps131
    go_wp2
    go_loopg [6] k (fun kq v6 wr => ∃ (p : Int) (L2 Y : List (List Int)) (v2 : Value), v6 = .int .i64 p ∧ 1 ≤ p ∧ p ≤ 101 ∧ Aside0 (frL kq n ([] : List Int) most p = some Y) ∧ Aside0 (kq ≤ k) ∧ Aside0 (L2 ++ Y = XX) ∧ Aside0 (FrEnv wr bo bn ba n v2) ∧ Aside0 (Kd.S (Kd.slice 3 (Kd.int .i64)) 22 wr B (okF bo bn ba) v2 L2) ∧ Aside0 (Kd.F (Kd.int .i64) wr (fun k => (okF bo bn ba k ∧ N0 ≤ k) ∧ k < W.heap.size) A ([] : List Int).length ([] : List Int)) ∧ Aside0 (Touch W wr (tF bo v)) ∧ Aside0 (∀ k, some k = v2.ownBlock → some k = v.ownBlock ∨ W.heap.size ≤ k) ∧ Aside0 (Below B w0 wr))
    case atStart => exact ⟨1, L1, b, _, rfl, by omega, by omega, HM, ⟨Nat.le_refl _⟩, HL1, HENV1, HS1, HF1, HT1, HAT1, HB1⟩
    case round =>
      clear HM HL1 HENV1 HS1 HF1 HT1 HAT1 HB1
      obtain ⟨p, L2, Y, v2, rfl, hp1, hp2, HM, HK, HL2, HENV, HS, HFR, HT, HAT, HB⟩ := hrel
      cases gk with
      | zero => exact absurd HM.out (by simp [frL])
      | succ k3 =>
      have H := HM.out
      rw [frL] at H
      by_cases hpm : p ≤ most
      · rw [if_pos hpm] at H
        obtain ⟨nx, hnx⟩ : ∃ nx, nx = ([] : List Int) ++ [p] := ⟨_, rfl⟩
        have hnl : nx.length = ([] : List Int).length + 1 := by rw [hnx]; simp
        rw [← hnx, ← hnl] at H
        have hpd : decide (p ≤ most) = true := decide_eq_true hpm
        have HPM := Aside0.mk (show p + 1 ≤ 101 by omega)
        have hcl := slices_Clone_int_int.calls A c ([] : List Int) ([] : List Int) wr (Kd.F_now HFR.out) HC.out (by unfold slices_Clone_int_int.f; rw [if_pos (by first | omega | simp)])
        have hba : wr.cell? ⟨ba, 0, none⟩ = _ := blk_cell HENV.out.add 0
        have HN3 := Aside0.mk (show bo < wr.heap.size ∧ bn < wr.heap.size ∧ ba < wr.heap.size from ⟨blk_lt HENV.out.out, blk_lt HENV.out.num, blk_lt HENV.out.add⟩)
        have HNX := Aside0.mk hnx
        have HBS := Aside0.mk (show B ≤ wr.heap.size from Nat.le_trans (Nat.le_trans HN.out.1 HN.out.2.1) HT.out.size)
        have hnl2 : nx.length ≤ 1000001 := by omega
        have hnl1 : 1 ≤ nx.length := by omega
        have HLR := Aside0.mk (show (([] : List Int).length + 1) * 8 ≤ 140737488355328 by omega)
        have HNL := Aside0.mk hnl
        have HPB := Aside0.mk (show ∀ x ∈ nx, x ≤ 100 from by
          intro x hx
          rw [hnx] at hx
          rcases List.mem_append.1 hx with h | h
          · exact HW0.out x h
          · rw [List.mem_singleton.1 h]; omega)
        clear HM hnx hnl
        by_cases htd : ((nx.length : Nat) : Int) < rd nx 0
        · rw [if_pos htd] at H
          obtain ⟨a, ha, H⟩ := Option.bind_eq_some_iff.1 H
          obtain ⟨b2, hb2, H⟩ := Option.bind_eq_some_iff.1 H
          obtain rfl := Option.some.inj H
          have htdd : decide ((nx.length : Int) < rd nx 0) = true := decide_eq_true htd
          have HA := Aside0.mk ha
          have HB2 := Aside0.mk hb2
          clear H ha hb2 hpm htd
          have HMB := Aside0.mk (show ∀ k, tF bo v2 k → tF bo v k ∨ W.heap.size ≤ k from fun k hk => hk.elim (fun e => .inl (.inl e)) (fun e => (HAT.out k e).elim (fun e => .inl (.inr e)) .inr))
          have HMN := Aside0.mk (show ∀ k, (okF bo bn ba k ∧ N0 ≤ k) ∧ k < W.heap.size → ¬ tF bo v2 k from fun k hk he => he.elim hk.1.1.1 (fun e => (HAT.out k e).elim (fun e => by have := (HV.out k e).2; have := hk.1.2; omega) (fun e => by have := hk.2; omega)))
          have HMS := Aside0.mk (show ∀ k, tF bo v2 k → B ≤ k from fun k hk => hk.elim (fun e => e ▸ HBO.out) (fun e => Kd.S_base HS.out k e.symm))
          go_wp2_with (first | (go_at_call 132; refine hcl.mono ?_; rintro e w2 ⟨vc, rfl, hR2, hb2⟩; have HR2 := Aside0.mk (Kd.R_mono (ok' := fun k => okF bo bn ba k ∧ wr.heap.size ≤ k) (Kd.R_bound hR2) (fun k hk => ⟨⟨by have := hk.2.1; have := HN3.out; omega, by have := hk.2.1; have := HN3.out; omega, by have := hk.2.1; have := HN3.out; omega⟩, hk.2.1⟩)); have HBC := Aside0.mk hb2; clear hR2 hb2) | ((with_reducible refine gate_builtin (b := .append) (xs := #[.tmp 31, .tmp 33]) rfl ?_); at_builtin; refine Kd.R_append (Kd.int .i64) (w0 := wr) wr.heap.size rfl (.tmp 31) (.tmp 33) 22 3 (.int .i64 0) 8 rfl Try.underlying22 info_ints2 rfl (by decide) (by omega) vc ([] : List Int) p [.int .i64 p] (fun k => okF bo bn ba k ∧ wr.heap.size ≤ k) (fun _ => False) rfl rfl rfl (fun _ hk => hk.elim) ?aF HR2.out HBC.out HBC.out.size HLR.out ?_; (case aF => exact fun k hk => by have := HN3.out; have := HBC.out.size; exact ⟨⟨by omega, by omega, by omega⟩, by omega⟩); intro v3 w3 ho hb hg hat; rw [← HNX.out] at ho; obtain ⟨g3, c3, rfl, _, _, _⟩ := Kd.R_form ho (by omega); have hx3 : w3.cell? ⟨g3, 0, none⟩ = some (.int .i64 (rd nx 0)) := (by have := Kd.foot_int (Kd.R_reads' ho).2.2 0 (by omega) (by omega); rwa [add_plain] at this); have he3 := HENV.out.below hb; have hba3 : w3.cell? ⟨ba, 0, none⟩ = some (.func (.func 131) #[] #[.pointer (some ⟨bo, 0, none⟩), .pointer (some ⟨bn, 0, none⟩), .pointer (some ⟨ba, 0, none⟩)]) := blk_cell he3.add 0; have HENV3 := Aside0.mk he3; have HS3 := Aside0.mk (Kd.S_old HS.out hb); have HR3 := Aside0.mk (Kd.R_lower ho HBS.out); have HB3 := Aside0.mk (HB.out.trans (hb.mono HBS.out)); have HT3 := Aside0.mk (HT.out.then_below hb); have HFR3 := Aside0.mk (Kd.F_below HFR.out hb); have HSZ3 := Aside0.mk hb.size; clear ho hb hg hat he3) | (go_at_fn 131; refine (IH.out k3 (by have := HK.out; omega) nx a L2 wr.heap.size (some ⟨g3, 0, none⟩) c3 v2 w3 HA.out (by have := HK.out; have := HLEN.out; have := HNL.out; omega) HPB.out (by have := HXT.out; rw [← HL2.out] at this; simp only [List.length_append] at this ⊢; omega) HENV3.out HBS.out HSZ3.out HN3.out.1 HN3.out.2.1 HN3.out.2.2 HB3.out HS3.out HR3.out).mono ?_; rintro e w4 ⟨rfl, v4, he4, hs4, ht4, hat4⟩; have HENV4 := Aside0.mk he4; have HS4 := Aside0.mk hs4; have HT4 := Aside0.mk ht4; have HAT4 := Aside0.mk hat4; clear he4 hs4 ht4 hat4 hx3 hba3 hba))
          have HL5 := Aside0.mk (show (L2 ++ a) ++ b2 = XX by rw [List.append_assoc]; exact HL2.out)
          go_roundg k3
          case measure => have := HK.out; omega
          case rel => exact ⟨p + 1, L2 ++ a, b2, v4, by go_num, by omega, HPM.out, HB2, ⟨by have := HK.out; omega⟩, HL5, HENV4, HS4, ⟨HT4.out.F HFR3.out HMN.out⟩, ⟨HT3.out.trans HT4.out HMB.out⟩, ⟨fun k hk => (HAT4.out k hk).elim (fun e => HAT.out k e) (fun e => .inr (Nat.le_trans HT3.out.size e))⟩, ⟨HB3.out.trans (HT4.out.below HMS.out (Nat.le_trans HBS.out HSZ3.out))⟩⟩
        · rw [if_neg htd] at H
          have htdd : decide ((nx.length : Int) < rd nx 0) = false := decide_eq_false htd
          have HM := Aside0.mk H
          clear H hpm htd
          go_wp2_with (first | (go_at_call 132; refine hcl.mono ?_; rintro e w2 ⟨vc, rfl, hR2, hb2⟩; have HR2 := Aside0.mk (Kd.R_mono (ok' := fun k => okF bo bn ba k ∧ wr.heap.size ≤ k) (Kd.R_bound hR2) (fun k hk => ⟨⟨by have := hk.2.1; have := HN3.out; omega, by have := hk.2.1; have := HN3.out; omega, by have := hk.2.1; have := HN3.out; omega⟩, hk.2.1⟩)); have HBC := Aside0.mk hb2; clear hR2 hb2) | ((with_reducible refine gate_builtin (b := .append) (xs := #[.tmp 31, .tmp 33]) rfl ?_); at_builtin; refine Kd.R_append (Kd.int .i64) (w0 := wr) wr.heap.size rfl (.tmp 31) (.tmp 33) 22 3 (.int .i64 0) 8 rfl Try.underlying22 info_ints2 rfl (by decide) (by omega) vc ([] : List Int) p [.int .i64 p] (fun k => okF bo bn ba k ∧ wr.heap.size ≤ k) (fun _ => False) rfl rfl rfl (fun _ hk => hk.elim) ?aF HR2.out HBC.out HBC.out.size HLR.out ?_; (case aF => exact fun k hk => by have := HN3.out; have := HBC.out.size; exact ⟨⟨by omega, by omega, by omega⟩, by omega⟩); intro v3 w3 ho hb hg hat; rw [← HNX.out] at ho; obtain ⟨g3, c3, rfl, _, _, _⟩ := Kd.R_form ho (by omega); have hx3 : w3.cell? ⟨g3, 0, none⟩ = some (.int .i64 (rd nx 0)) := (by have := Kd.foot_int (Kd.R_reads' ho).2.2 0 (by omega) (by omega); rwa [add_plain] at this); have he3 := HENV.out.below hb; have hba3 : w3.cell? ⟨ba, 0, none⟩ = some (.func (.func 131) #[] #[.pointer (some ⟨bo, 0, none⟩), .pointer (some ⟨bn, 0, none⟩), .pointer (some ⟨ba, 0, none⟩)]) := blk_cell he3.add 0; have HENV3 := Aside0.mk he3; have HS3 := Aside0.mk (Kd.S_old HS.out hb); have HR3 := Aside0.mk (Kd.R_lower ho HBS.out); have HB3 := Aside0.mk (HB.out.trans (hb.mono HBS.out)); have HT3 := Aside0.mk (HT.out.then_below hb); have HFR3 := Aside0.mk (Kd.F_below HFR.out hb); have HSZ3 := Aside0.mk hb.size; clear ho hb hg hat he3))
          go_roundg k3
          case measure => have := HK.out; omega
          case rel => exact ⟨p + 1, L2, Y, v2, by go_num, by omega, HPM.out, HM, ⟨by have := HK.out; omega⟩, HL2, HENV3, ⟨Kd.S_mono HS3.out (fun k hk => hk.1)⟩, HFR3, HT3, HAT, HB3⟩
      · rw [if_neg hpm] at H
        obtain rfl := Option.some.inj H
        have hpd : decide (p ≤ most) = false := decide_eq_false hpm
        have HL3 := Aside0.mk (show L2 = XX by have := HL2.out; rwa [List.append_nil] at this)
        clear H hpm HM
        go_wp2
        go_end0
        exact ⟨rfl, v2, HENV.out, by rw [← HL3.out]; exact HS.out, HT.out, HAT.out⟩
  case neg =>
    have hpos : 0 < row.length := List.length_pos_iff.2 hr
    obtain ⟨g, cap, e1, hgB, hgl, _⟩ := Kd.R_form hR hpos
    injection e1 with e1 _ e2
    subst e1 e2
    have hposd : decide (0 < row.length) = true := decide_eq_true hpos
    have hge1 : 1 ≤ row.length := hpos
    have hlz : (0 : Int) ≤ (row.length : Int) - 1 := by omega
    rw [if_pos hpos] at hb1 hXX
    obtain ⟨most, hmost⟩ : ∃ m, m = rd row ((row.length : Int) - 1) := ⟨_, rfl⟩
    have hm0 := hrow row[row.length - 1] (List.getElem_mem (by omega))
    have hm1 : rd row ((row.length - 1 : Nat) : Int) = row[row.length - 1] := rd_of row (row.length - 1) (by omega)
    have hcast : ((row.length - 1 : Nat) : Int) = (row.length : Int) - 1 := by omega
    rw [hcast] at hb1 hm1
    rw [← hmost] at hb1 hm1
    have hn : most ≤ 100 := by rw [hm1]; exact hm0
    have HM := Aside0.mk hb1
    obtain ⟨L1, hL1⟩ : ∃ L1, L1 = L ++ [row] := ⟨_, rfl⟩
    have HL1 := Aside0.mk (show L1 ++ b = XX by rw [hXX, hL1, List.append_assoc])
    have HLE := Aside0.mk hL1
    have HENV := Aside0.mk henv
    have HSS := Aside0.mk hS
    have HRR := Aside0.mk hR
    have HMO := Aside0.mk hmost
    have hnsz : N0 ≤ W.heap.size := hNW
    have HLL := Aside0.mk (show (L.length + 1) * 24 ≤ 140737488355328 by have := hlx; rw [hXX, List.length_append] at this; omega)
    clear hS hR hlx hrow hlen hgB hgl henv hBN hNW ho1 ho2 ho3 hb1 hr hpos hXX hm0 hm1 hcast hL1 hmost
    go_enter Try.func131, Try.ntmps131
    go_wp2_with (first | ((with_reducible refine gate_builtin (b := .append) (xs := #[.tmp 11, .tmp 13]) rfl ?_); at_builtin; refine Kd.S_append (Kd.slice 3 (Kd.int .i64)) (w0 := w0) B rfl (.tmp 11) (.tmp 13) 36 22 (.slice none 0 0) 24 rfl Try.underlying36 info_rows2 rfl (by decide) (by omega) v L row [.slice (some ⟨g, 0, none⟩) row.length c] (okF bo bn ba) (fun k => okF bo bn ba k ∧ N0 ≤ k) rfl rfl (Kd.M_row HRR.out) ?aP ?aF ?aO HBW.out (Nat.le_trans HN.out.1 HN.out.2.1) HLL.out ?_; (case aP => exact fun k hk => ⟨hk.1, fun e => by have := ((Kd.S_R HSS.out).1 k e.symm).2; have := hk.2; omega⟩); (case aF => exact fun k hk => ⟨by omega, by omega, by omega⟩); (case aO => exact Kd.S_mono HSS.out (fun k hk => ⟨hk.1, fun h2 => by have := hk.2; have := h2.2; omega⟩)); intro v1 w1 ho hb hg hat; rw [← HLE.out] at ho; obtain ⟨A1, n1, c1, rfl⟩ := slice3 ho; obtain ⟨hc1, hf1, hn1, he1, hs1, hfr1, ht1, hat1⟩ := fr_app HENV.out HSS.out (Kd.F_bound HF.out) hg ho hat; have hx1 := Kd.foot_int (Kd.F_now hfr1) ((row.length : Int) - 1) (by omega) (by omega); rw [add_plain, ← HMO.out, show (((row.length : Int) - 1).toNat) = row.length - 1 by omega] at hx1; have HENV1 := Aside0.mk he1; have HS1 := Aside0.mk hs1; have HF1 := Aside0.mk hfr1; have HT1 := Aside0.mk ht1; have HAT1 := Aside0.mk hat1; have HB1 := Aside0.mk (hb.setCell (p := ⟨bo, 0, none⟩) HBO.out (.slice A1 n1 c1)); clear ho hb hg hat he1 hs1 hfr1 ht1 hat1))
    go_loopg [6] k (fun kq v6 wr => ∃ (p : Int) (L2 Y : List (List Int)) (v2 : Value), v6 = .int .i64 p ∧ 1 ≤ p ∧ p ≤ 101 ∧ Aside0 (frL kq n row most p = some Y) ∧ Aside0 (kq ≤ k) ∧ Aside0 (L2 ++ Y = XX) ∧ Aside0 (FrEnv wr bo bn ba n v2) ∧ Aside0 (Kd.S (Kd.slice 3 (Kd.int .i64)) 22 wr B (okF bo bn ba) v2 L2) ∧ Aside0 (Kd.F (Kd.int .i64) wr (fun k => (okF bo bn ba k ∧ N0 ≤ k) ∧ k < W.heap.size) (some ⟨g, 0, none⟩) row.length row) ∧ Aside0 (Touch W wr (tF bo v)) ∧ Aside0 (∀ k, some k = v2.ownBlock → some k = v.ownBlock ∨ W.heap.size ≤ k) ∧ Aside0 (Below B w0 wr))
    case atStart => exact ⟨1, L1, b, _, rfl, by omega, by omega, HM, ⟨Nat.le_refl _⟩, HL1, HENV1, HS1, HF1, HT1, HAT1, HB1⟩
    case round =>
      clear HM HL1 HENV1 HS1 HF1 HT1 HAT1 HB1
      obtain ⟨p, L2, Y, v2, rfl, hp1, hp2, HM, HK, HL2, HENV, HS, HFR, HT, HAT, HB⟩ := hrel
      cases gk with
      | zero => exact absurd HM.out (by simp [frL])
      | succ k3 =>
      have H := HM.out
      rw [frL] at H
      by_cases hpm : p ≤ most
      · rw [if_pos hpm] at H
        obtain ⟨nx, hnx⟩ : ∃ nx, nx = row ++ [p] := ⟨_, rfl⟩
        have hnl : nx.length = row.length + 1 := by rw [hnx]; simp
        rw [← hnx, ← hnl] at H
        have hpd : decide (p ≤ most) = true := decide_eq_true hpm
        have HPM := Aside0.mk (show p + 1 ≤ 101 by omega)
        have hcl := slices_Clone_int_int.calls (some ⟨g, 0, none⟩) c row row wr (Kd.F_now HFR.out) HC.out (by unfold slices_Clone_int_int.f; rw [if_pos (by first | omega | simp)])
        have hba : wr.cell? ⟨ba, 0, none⟩ = _ := blk_cell HENV.out.add 0
        have HN3 := Aside0.mk (show bo < wr.heap.size ∧ bn < wr.heap.size ∧ ba < wr.heap.size from ⟨blk_lt HENV.out.out, blk_lt HENV.out.num, blk_lt HENV.out.add⟩)
        have HNX := Aside0.mk hnx
        have HBS := Aside0.mk (show B ≤ wr.heap.size from Nat.le_trans (Nat.le_trans HN.out.1 HN.out.2.1) HT.out.size)
        have hnl2 : nx.length ≤ 1000001 := by omega
        have hnl1 : 1 ≤ nx.length := by omega
        have HLR := Aside0.mk (show (row.length + 1) * 8 ≤ 140737488355328 by omega)
        have HNL := Aside0.mk hnl
        have HPB := Aside0.mk (show ∀ x ∈ nx, x ≤ 100 from by
          intro x hx
          rw [hnx] at hx
          rcases List.mem_append.1 hx with h | h
          · exact HW0.out x h
          · rw [List.mem_singleton.1 h]; omega)
        clear HM hnx hnl
        by_cases htd : ((nx.length : Nat) : Int) < rd nx 0
        · rw [if_pos htd] at H
          obtain ⟨a, ha, H⟩ := Option.bind_eq_some_iff.1 H
          obtain ⟨b2, hb2, H⟩ := Option.bind_eq_some_iff.1 H
          obtain rfl := Option.some.inj H
          have htdd : decide ((nx.length : Int) < rd nx 0) = true := decide_eq_true htd
          have HA := Aside0.mk ha
          have HB2 := Aside0.mk hb2
          clear H ha hb2 hpm htd
          have HMB := Aside0.mk (show ∀ k, tF bo v2 k → tF bo v k ∨ W.heap.size ≤ k from fun k hk => hk.elim (fun e => .inl (.inl e)) (fun e => (HAT.out k e).elim (fun e => .inl (.inr e)) .inr))
          have HMN := Aside0.mk (show ∀ k, (okF bo bn ba k ∧ N0 ≤ k) ∧ k < W.heap.size → ¬ tF bo v2 k from fun k hk he => he.elim hk.1.1.1 (fun e => (HAT.out k e).elim (fun e => by have := (HV.out k e).2; have := hk.1.2; omega) (fun e => by have := hk.2; omega)))
          have HMS := Aside0.mk (show ∀ k, tF bo v2 k → B ≤ k from fun k hk => hk.elim (fun e => e ▸ HBO.out) (fun e => Kd.S_base HS.out k e.symm))
          go_wp2_with (first | (go_at_call 132; refine hcl.mono ?_; rintro e w2 ⟨vc, rfl, hR2, hb2⟩; have HR2 := Aside0.mk (Kd.R_mono (ok' := fun k => okF bo bn ba k ∧ wr.heap.size ≤ k) (Kd.R_bound hR2) (fun k hk => ⟨⟨by have := hk.2.1; have := HN3.out; omega, by have := hk.2.1; have := HN3.out; omega, by have := hk.2.1; have := HN3.out; omega⟩, hk.2.1⟩)); have HBC := Aside0.mk hb2; clear hR2 hb2) | ((with_reducible refine gate_builtin (b := .append) (xs := #[.tmp 31, .tmp 33]) rfl ?_); at_builtin; refine Kd.R_append (Kd.int .i64) (w0 := wr) wr.heap.size rfl (.tmp 31) (.tmp 33) 22 3 (.int .i64 0) 8 rfl Try.underlying22 info_ints2 rfl (by decide) (by omega) vc row p [.int .i64 p] (fun k => okF bo bn ba k ∧ wr.heap.size ≤ k) (fun _ => False) rfl rfl rfl (fun _ hk => hk.elim) ?aF HR2.out HBC.out HBC.out.size HLR.out ?_; (case aF => exact fun k hk => by have := HN3.out; have := HBC.out.size; exact ⟨⟨by omega, by omega, by omega⟩, by omega⟩); intro v3 w3 ho hb hg hat; rw [← HNX.out] at ho; obtain ⟨g3, c3, rfl, _, _, _⟩ := Kd.R_form ho (by omega); have hx3 : w3.cell? ⟨g3, 0, none⟩ = some (.int .i64 (rd nx 0)) := (by have := Kd.foot_int (Kd.R_reads' ho).2.2 0 (by omega) (by omega); rwa [add_plain] at this); have he3 := HENV.out.below hb; have hba3 : w3.cell? ⟨ba, 0, none⟩ = some (.func (.func 131) #[] #[.pointer (some ⟨bo, 0, none⟩), .pointer (some ⟨bn, 0, none⟩), .pointer (some ⟨ba, 0, none⟩)]) := blk_cell he3.add 0; have HENV3 := Aside0.mk he3; have HS3 := Aside0.mk (Kd.S_old HS.out hb); have HR3 := Aside0.mk (Kd.R_lower ho HBS.out); have HB3 := Aside0.mk (HB.out.trans (hb.mono HBS.out)); have HT3 := Aside0.mk (HT.out.then_below hb); have HFR3 := Aside0.mk (Kd.F_below HFR.out hb); have HSZ3 := Aside0.mk hb.size; clear ho hb hg hat he3) | (go_at_fn 131; refine (IH.out k3 (by have := HK.out; omega) nx a L2 wr.heap.size (some ⟨g3, 0, none⟩) c3 v2 w3 HA.out (by have := HK.out; have := HLEN.out; have := HNL.out; omega) HPB.out (by have := HXT.out; rw [← HL2.out] at this; simp only [List.length_append] at this ⊢; omega) HENV3.out HBS.out HSZ3.out HN3.out.1 HN3.out.2.1 HN3.out.2.2 HB3.out HS3.out HR3.out).mono ?_; rintro e w4 ⟨rfl, v4, he4, hs4, ht4, hat4⟩; have HENV4 := Aside0.mk he4; have HS4 := Aside0.mk hs4; have HT4 := Aside0.mk ht4; have HAT4 := Aside0.mk hat4; clear he4 hs4 ht4 hat4 hx3 hba3 hba))
          have HL5 := Aside0.mk (show (L2 ++ a) ++ b2 = XX by rw [List.append_assoc]; exact HL2.out)
          go_roundg k3
          case measure => have := HK.out; omega
          case rel => exact ⟨p + 1, L2 ++ a, b2, v4, by go_num, by omega, HPM.out, HB2, ⟨by have := HK.out; omega⟩, HL5, HENV4, HS4, ⟨HT4.out.F HFR3.out HMN.out⟩, ⟨HT3.out.trans HT4.out HMB.out⟩, ⟨fun k hk => (HAT4.out k hk).elim (fun e => HAT.out k e) (fun e => .inr (Nat.le_trans HT3.out.size e))⟩, ⟨HB3.out.trans (HT4.out.below HMS.out (Nat.le_trans HBS.out HSZ3.out))⟩⟩
        · rw [if_neg htd] at H
          have htdd : decide ((nx.length : Int) < rd nx 0) = false := decide_eq_false htd
          have HM := Aside0.mk H
          clear H hpm htd
          go_wp2_with (first | (go_at_call 132; refine hcl.mono ?_; rintro e w2 ⟨vc, rfl, hR2, hb2⟩; have HR2 := Aside0.mk (Kd.R_mono (ok' := fun k => okF bo bn ba k ∧ wr.heap.size ≤ k) (Kd.R_bound hR2) (fun k hk => ⟨⟨by have := hk.2.1; have := HN3.out; omega, by have := hk.2.1; have := HN3.out; omega, by have := hk.2.1; have := HN3.out; omega⟩, hk.2.1⟩)); have HBC := Aside0.mk hb2; clear hR2 hb2) | ((with_reducible refine gate_builtin (b := .append) (xs := #[.tmp 31, .tmp 33]) rfl ?_); at_builtin; refine Kd.R_append (Kd.int .i64) (w0 := wr) wr.heap.size rfl (.tmp 31) (.tmp 33) 22 3 (.int .i64 0) 8 rfl Try.underlying22 info_ints2 rfl (by decide) (by omega) vc row p [.int .i64 p] (fun k => okF bo bn ba k ∧ wr.heap.size ≤ k) (fun _ => False) rfl rfl rfl (fun _ hk => hk.elim) ?aF HR2.out HBC.out HBC.out.size HLR.out ?_; (case aF => exact fun k hk => by have := HN3.out; have := HBC.out.size; exact ⟨⟨by omega, by omega, by omega⟩, by omega⟩); intro v3 w3 ho hb hg hat; rw [← HNX.out] at ho; obtain ⟨g3, c3, rfl, _, _, _⟩ := Kd.R_form ho (by omega); have hx3 : w3.cell? ⟨g3, 0, none⟩ = some (.int .i64 (rd nx 0)) := (by have := Kd.foot_int (Kd.R_reads' ho).2.2 0 (by omega) (by omega); rwa [add_plain] at this); have he3 := HENV.out.below hb; have hba3 : w3.cell? ⟨ba, 0, none⟩ = some (.func (.func 131) #[] #[.pointer (some ⟨bo, 0, none⟩), .pointer (some ⟨bn, 0, none⟩), .pointer (some ⟨ba, 0, none⟩)]) := blk_cell he3.add 0; have HENV3 := Aside0.mk he3; have HS3 := Aside0.mk (Kd.S_old HS.out hb); have HR3 := Aside0.mk (Kd.R_lower ho HBS.out); have HB3 := Aside0.mk (HB.out.trans (hb.mono HBS.out)); have HT3 := Aside0.mk (HT.out.then_below hb); have HFR3 := Aside0.mk (Kd.F_below HFR.out hb); have HSZ3 := Aside0.mk hb.size; clear ho hb hg hat he3))
          go_roundg k3
          case measure => have := HK.out; omega
          case rel => exact ⟨p + 1, L2, Y, v2, by go_num, by omega, HPM.out, HM, ⟨by have := HK.out; omega⟩, HL2, HENV3, ⟨Kd.S_mono HS3.out (fun k hk => hk.1)⟩, HFR3, HT3, HAT, HB3⟩
      · rw [if_neg hpm] at H
        obtain rfl := Option.some.inj H
        have hpd : decide (p ≤ most) = false := decide_eq_false hpm
        have HL3 := Aside0.mk (show L2 = XX by have := HL2.out; rwa [List.append_nil] at this)
        clear H hpm HM
        go_wp2
        go_end0
        exact ⟨rfl, v2, HENV.out, by rw [← HL3.out]; exact HS.out, HT.out, HAT.out⟩

/-- A table of the call's own comes back. -/
def RetM2 (w : World) (T : List (List Int)) (e : Ending) (w' : World) : Prop := ∃ v0_ : Value, e = .returned (v0_) ∧ Kd.S (Kd.slice 3 (Kd.int .i64)) 22 w' w.heap.size (fun _ => True) v0_ T ∧ Below w.heap.size w w'
theorem blk_new_at {w : World} {o : Obj} {g : Nat} (h : g = w.heap.size) : (w.alloc o).heap[g]? = some o := h ▸ blk_new w o
theorem S_empty {α : Type} {d : Kd α} {e : Nat} {W : World} {B g : Nat} {ok : Nat → Prop} (h : W.heap[g]? = some (.cells #[] e (0, 0))) (hB : B ≤ g) (hok : ok g) : Kd.S d e W B ok (.slice (some ⟨g, 0, none⟩) 0 0) [] := by
  refine ⟨fun _ => 0, fun k hk => ?_, [], ⟨by simp, .inr ⟨g, 0, #[], rfl, hB, h, Nat.le_refl _, by unfold maxLen; omega, by simp, by simp⟩⟩, Reps.none _ _⟩
  have : g = k := by simpa [Value.ownBlock] using hk
  exact this ▸ hok
set_option maxHeartbeats 2000000 in
theorem impl_firstRows.callsG (n : Int) (hn : n ≤ 100) (k : Nat) (X : List (List Int)) (w : World) (h : frE k n [] = some X) (hk : k ≤ 100000) (hX : X.length ≤ 1000000) :
    Calls Try.prog 94 #[.int .i64 n] w (RetM2 w X) := by
  have eg : ∀ args w, (callFunc 131 args).run Try.prog w = .ok (.enter 131 args) w := enters_of Try.func131 (by kernel_rfl) rfl
  obtain ⟨W4, hW4⟩ : ∃ W4, W4 = ((((w.alloc (.cells #[.int .i64 n] 3)).alloc (.cells #[] 22)).alloc (.cells #[.slice (some ⟨w.heap.size + 1, 0, none⟩) 0 0] 36)).alloc (.cells #[.func (.func 131) #[] #[.pointer (some ⟨w.heap.size + 1 + 1, 0, none⟩), .pointer (some ⟨w.heap.size, 0, none⟩), .pointer (some ⟨w.heap.size + 1 + 1 + 1, 0, none⟩)]] 81)) := ⟨_, rfl⟩
  have hb4 : Below w.heap.size w W4 := by rw [hW4]; exact below_alloc (below_alloc (below_alloc (below_alloc (Below.refl _ _) _) _) _) _
  have hsz : W4.heap.size = w.heap.size + 1 + 1 + 1 + 1 := by rw [hW4]; simp
  have henv : FrEnv W4 (w.heap.size + 1 + 1) w.heap.size (w.heap.size + 1 + 1 + 1) n (.slice (some ⟨w.heap.size + 1, 0, none⟩) 0 0) := by
    rw [hW4]
    exact ⟨blk_alloc (blk_new_at (by simp)) _, blk_alloc (blk_alloc (blk_alloc (blk_new_at (by simp)) _) _) _, blk_new_at (by simp), by omega, by omega, by omega⟩
  have hemp : W4.heap[w.heap.size + 1]? = some (.cells #[] 22 (0, 0)) := by rw [hW4]; exact blk_alloc (blk_alloc (blk_new_at (by simp)) _) _
  have hcall := firstRows_1.calls w.heap.size w (w.heap.size + 1 + 1) w.heap.size (w.heap.size + 1 + 1 + 1) n hn (by omega) k [] X [] (w.heap.size + 1 + 1 + 1 + 1) none 0 _ W4 h (by simpa using hk) (by simp) (by simpa using hX) henv (by omega) (by omega) (by omega) (by omega) (by omega) hb4 (S_empty hemp (by omega) ⟨⟨by omega, by omega, by omega⟩, by omega⟩) (Kd.R_nil _ _ _ _ _)
  have HC := Aside0.mk hcall
  have HS := Aside0.mk hsz
  have HB := Aside0.mk hb4
  have HW4 := Aside0.mk hW4
  clear hcall hemp henv hb4 hsz hW4 h hk hX
  go_enter Try.func94, Try.ntmps94
  go_wp2_with (go_at_fn 131; rw [← HW4.out]; refine HC.out.mono ?_; rintro e w5 ⟨rfl, v5, he5, hs5, ht5, _⟩; have hx5 : w5.cell? ⟨w.heap.size + 1 + 1, 0, none⟩ = some v5 := blk_cell he5.out 0; have HS5 := Aside0.mk hs5; have HT5 := Aside0.mk ht5; clear he5 hs5 ht5)
  go_ret
  exact ⟨_, rfl, Kd.S_mono (by have := HS5.out; rwa [List.nil_append] at this) (fun _ _ => trivial), HB.out.trans (HT5.out.below (fun k hk => hk.elim (fun e => by omega) (fun e => by simp [Value.ownBlock] at e; omega)) (by have := HS.out; omega))⟩
end Go.Proofs.Ytdcdkckpmkfjdaa
