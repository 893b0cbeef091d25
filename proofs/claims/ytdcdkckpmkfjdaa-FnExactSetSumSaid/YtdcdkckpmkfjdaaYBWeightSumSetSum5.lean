/- Texts of one chain, in build order. -/
import Derived.Test.YtdcdkckpmkfjdaaYBWeightSumSetSum4
import Derived.Test.YtdcdkckpmkfjdaaWMore
import Derived.Laws.EntriesVeiled
import Derived.WalkSpells
import Derived.Deep.RegionLawGrows
namespace Go.Proofs.Ytdcdkckpmkfjdaa
open Go.RowKit Go.Proofs.YtdcdkckpmkfjdaaW.PrintWords Go.Proofs.YtdcdkckpmkfjdaaW.PrintLast Go.Proofs.YtdcdkckpmkfjdaaW.PrintMore
set_option linter.unusedVariables false
set_option linter.unusedSimpArgs false

mutual
/-- The rows that go on a row by a part of at least p. -/
def frL : Nat → Int → List Int → Int → Int → Option (List (List Int))
  | 0, _, _, _, _ => none
  | k + 1, n, row, most, p => if p ≤ most then (if ((row.length + 1 : Nat) : Int) < rd (row ++ [p]) 0 then (frE k n (row ++ [p])).bind fun a => (frL k n row most (p + 1)).bind fun b => some (a ++ b) else frL k n row most (p + 1)) else some []
/-- A row and all that go on it. -/
def frE : Nat → Int → List Int → Option (List (List Int))
  | 0, _, _ => none
  | k + 1, n, row => (frL k n row (if 0 < row.length then rd row ((row.length - 1 : Nat) : Int) else n) 1).bind fun b => some ((if 0 < row.length then [row] else []) ++ b)
end

/-- The variables of the closure. -/
structure FrEnv (W : World) (bo bn ba : Nat) (n : Int) (v : Value) : Prop where
  out : W.heap[bo]? = some (.cells #[v] 36 (0, 0))
  num : W.heap[bn]? = some (.cells #[.int .i64 n] 3 (0, 0))
  add : W.heap[ba]? = some (.cells #[.func (.func 131) #[] #[.pointer (some ⟨bo, 0, none⟩), .pointer (some ⟨bn, 0, none⟩), .pointer (some ⟨ba, 0, none⟩)]] 81 (0, 0))
  ne : bo ≠ bn ∧ bo ≠ ba ∧ bn ≠ ba
theorem FrEnv.touch {W W' : World} {bo bn ba : Nat} {n : Int} {v : Value} {S : Nat → Prop} (h : FrEnv W bo bn ba n v) (ht : Touch W W' S) (h0 : ¬ S bo) (h1 : ¬ S bn) (h2 : ¬ S ba) : FrEnv W' bo bn ba n v :=
  ⟨ht.blk h.out h0, ht.blk h.num h1, ht.blk h.add h2, h.ne⟩
theorem FrEnv.below {W W' : World} {bo bn ba : Nat} {n : Int} {v : Value} (h : FrEnv W bo bn ba n v) (hb : Below W.heap.size W W') : FrEnv W' bo bn ba n v := h.touch (Touch.of_below hb (fun _ => False)) id id id
theorem FrEnv.put {W : World} {bo bn ba : Nat} {n : Int} {v : Value} (h : FrEnv W bo bn ba n v) (v' : Value) : FrEnv (W.setCell ⟨bo, 0, none⟩ v') bo bn ba n v' :=
  ⟨blk_put h.out 0 v' rfl, blk_far h.num (by have := h.ne; exact fun e => this.1 e.symm) _, blk_far h.add (by have := h.ne; exact fun e => this.2.1 e.symm) _, h.ne⟩
/-- No block of a variable. -/
def okF (bo bn ba : Nat) : Nat → Prop := fun k => k ≠ bo ∧ k ≠ bn ∧ k ≠ ba
/-- What is written: the variable out, and its row. -/
def tF (bo : Nat) (v : Value) : Nat → Prop := fun k => k = bo ∨ some k = v.ownBlock
/-- What the closure leaves. -/
def FrPost (W : World) (B bo bn ba : Nat) (n : Int) (v : Value) (L : List (List Int)) (e : Ending) (W' : World) : Prop :=
  e = .returned (.tuple #[]) ∧ ∃ v', FrEnv W' bo bn ba n v' ∧ Kd.S (Kd.slice 3 (Kd.int .i64)) 22 W' B (okF bo bn ba) v' L ∧ Touch W W' (tF bo v) ∧ ∀ k, some k = v'.ownBlock → some k = v.ownBlock ∨ W.heap.size ≤ k

theorem Touch.of_grown {W W' : World} {v : Value} (h : W.grownBy W' v.ownBlock) : Touch W W' (fun k => some k = v.ownBlock) := ⟨h.os, h.tape, h.output, h.size, fun i hi hn => h.block i hi hn⟩
theorem slice3 {α : Type} {d : Kd α} {e : Nat} {W : World} {B : Nat} {ok : Nat → Prop} {v : Value} {xs : List α} (h : Kd.S d e W B ok v xs) : ∃ A n c, v = .slice A n c := by
  obtain ⟨A, c, rfl⟩ := Kd.R_slice (Kd.S_R h)
  exact ⟨A, _, c, rfl⟩
/-- A row has been appended to what the variable out holds. -/
theorem fr_app {W w1 : World} {B bo bn ba N0 nn : Nat} {n : Int} {v v1 : Value} {A : Option Addr} {L L1 : List (List Int)} {row : List Int} (henv : FrEnv W bo bn ba n v) (hS : Kd.S (Kd.slice 3 (Kd.int .i64)) 22 W B (fun k => okF bo bn ba k ∧ k < N0) v L)
    (hF : Kd.F (Kd.int .i64) W (fun k => (okF bo bn ba k ∧ N0 ≤ k) ∧ k < W.heap.size) A nn row)
    (hg : W.grownBy w1 v.ownBlock) (ho : Kd.S (Kd.slice 3 (Kd.int .i64)) 22 w1 B (okF bo bn ba) v1 L1) (hat : v1.ownBlock = v.ownBlock ∨ ∃ b, v1.ownBlock = some b ∧ W.heap.size ≤ b) :
    w1.cell? ⟨bo, 0, none⟩ = some v ∧ w1.frozen? ⟨bo, 0, none⟩ = false ∧ (w1.setCell ⟨bo, 0, none⟩ v1).cell? ⟨bn, 0, none⟩ = some (.int .i64 n) ∧ FrEnv (w1.setCell ⟨bo, 0, none⟩ v1) bo bn ba n v1 ∧ Kd.S (Kd.slice 3 (Kd.int .i64)) 22 (w1.setCell ⟨bo, 0, none⟩ v1) B (okF bo bn ba) v1 L1 ∧
      Kd.F (Kd.int .i64) (w1.setCell ⟨bo, 0, none⟩ v1) (fun k => (okF bo bn ba k ∧ N0 ≤ k) ∧ k < W.heap.size) A nn row ∧ Touch W (w1.setCell ⟨bo, 0, none⟩ v1) (tF bo v) ∧ (∀ k, some k = v1.ownBlock → some k = v.ownBlock ∨ W.heap.size ≤ k) := by
  have hv : ∀ k, some k = v.ownBlock → okF bo bn ba k ∧ k < N0 := fun k e => (Kd.S_R hS).1 k e.symm
  have ht := Touch.of_grown hg
  have h1 := henv.touch ht (fun e => (hv _ e).1.1 rfl) (fun e => (hv _ e).1.2.1 rfl) (fun e => (hv _ e).1.2.2 rfl)
  have ht2 : Touch W (w1.setCell ⟨bo, 0, none⟩ v1) (tF bo v) := (ht.mono (fun k hk => .inr hk)).set ⟨bo, 0, none⟩ (.inl (.inl rfl)) v1
  refine ⟨blk_cell h1.out 0, blk_frozen h1.out 0, blk_cell (h1.put v1).num 0, h1.put v1, Kd.S_far ho (fun k hk => hk.1) v1, ht2.F hF (fun k hk he => ?_), ht2, fun k hk => ?_⟩
  · rcases he with e | e
    · exact hk.1.1.1 e
    · have := (hv k e).2; have := hk.1.2; omega
  · rcases hat with e | ⟨b, e, hle⟩
    · exact .inl (hk.trans e)
    · rw [e] at hk; injection hk with hk; exact .inr (by omega)
theorem info_rows2 : (Try.prog.info? 22).map (fun i => (i.zero, i.size, i.bytes)) = some (some (.slice none 0 0), 1, 24) := by kernel_rfl
theorem info_ints2 : (Try.prog.info? 3).map (fun i => (i.zero, i.size, i.bytes)) = some (some (.int .i64 0), 1, 8) := by kernel_rfl
theorem rd_of (l : List Int) (i : Nat) (h : i < l.length) : rd l (i : Int) = l[i] := by simp [rd, List.getD_eq_getElem?_getD, h]
theorem i64_of (x : Int) (h0 : -9223372036854775808 ≤ x) (h1 : x ≤ 9223372036854775807) : IntKind.i64.wrap x = x := IntWalk.i64_in _ ⟨h0, h1⟩

set_option maxHeartbeats 4000000 in
set_option maxRecDepth 100000 in
theorem firstRows_1.calls (B : Nat) (w0 : World) (bo bn ba : Nat) (n : Int) (hn : n ≤ 100) (hBo : B ≤ bo) : ∀ (k : Nat) (row : List Int) (X L : List (List Int)) (N0 : Nat) (A : Option Addr) (c : Nat) (v : Value) (W : World),
    frE k n row = some X → row.length + k ≤ 100000 → (∀ x ∈ row, x ≤ 100) → (L ++ X).length ≤ 1000000 →
    FrEnv W bo bn ba n v → B ≤ N0 → N0 ≤ W.heap.size → bo < N0 → bn < N0 → ba < N0 → Below B w0 W →
    Kd.S (Kd.slice 3 (Kd.int .i64)) 22 W B (fun k => okF bo bn ba k ∧ k < N0) v L →
    Kd.R (Kd.int .i64) 3 W B (fun k => okF bo bn ba k ∧ N0 ≤ k) (.slice A row.length c) row →
    Calls Try.prog 131 #[.slice A row.length c, .pointer (some ⟨bo, 0, none⟩), .pointer (some ⟨bn, 0, none⟩), .pointer (some ⟨ba, 0, none⟩)] W (FrPost W B bo bn ba n v (L ++ X)) := by
  intro k
  induction k using Nat.strongRecOn with
  | _ k ih =>
  intro row X L N0 A c v W hX hlen hrow hlx henv hBN hNW ho1 ho2 ho3 hb hS hR
  cases k with
  | zero => simp [frE] at hX
  | succ k =>
  rw [frE] at hX
  obtain ⟨b, hb1, hb2⟩ := Option.bind_eq_some_iff.1 hX
  obtain rfl := Option.some.inj hb2
  clear hb2 hX
  obtain ⟨XX, hXX⟩ : ∃ XX, XX = L ++ ((if 0 < row.length then [row] else []) ++ b) := ⟨_, rfl⟩
  rw [← hXX] at hlx ⊢
  have eg : ∀ args w, (callFunc 131 args).run Try.prog w = .ok (.enter 131 args) w := enters_of Try.func131 (by kernel_rfl) rfl
  have IH := Aside0.mk ih
  have HW0 := Aside0.mk hrow
  have HF := Aside0.mk (Kd.R_F hR)
  have HC := Aside0.mk (Kd.R_reads' hR).2.1
  have HXT := Aside0.mk hlx
  have HLEN := Aside0.mk hlen
  have HBW := Aside0.mk hb
  have HBO := Aside0.mk hBo
  have HN := Aside0.mk (And.intro hBN (And.intro hNW (And.intro ho1 (And.intro ho2 ho3))))
  have hout : W.cell? ⟨bo, 0, none⟩ = some v := blk_cell henv.out 0
  have hnum : W.cell? ⟨bn, 0, none⟩ = some (.int .i64 n) := blk_cell henv.num 0
  have hle1 : row.length ≤ 1000000 := by omega
  have hbN : bo < W.heap.size ∧ bn < W.heap.size ∧ ba < W.heap.size := ⟨by omega, by omega, by omega⟩
  have HV := Aside0.mk (fun k (e : some k = v.ownBlock) => (Kd.S_R hS).1 k e.symm)
  clear ih hb hBo
  by_cases hr : row = []
  case pos =>
    subst hr
    rw [if_neg (by simp)] at hb1 hXX
    obtain ⟨most, hmost⟩ : ∃ m, m = n := ⟨_, rfl⟩
    rw [← hmost] at hnum hn
    have HM := Aside0.mk (show frL k n [] most 1 = some b by rw [hmost]; exact hb1)
    obtain ⟨L1, hL1⟩ : ∃ L1, L1 = L := ⟨_, rfl⟩
    have HL1 := Aside0.mk (show L1 ++ b = XX by rw [hXX, hL1]; rfl)
    have HENV1 := Aside0.mk henv
    have HS1 := Aside0.mk (show Kd.S (Kd.slice 3 (Kd.int .i64)) 22 W B (okF bo bn ba) v L1 by rw [hL1]; exact Kd.S_mono hS (fun k hk => hk.1))
    have HF1 := Aside0.mk (Kd.F_bound HF.out)
    have HT1 := Aside0.mk (Touch.refl W (tF bo v))
    have HAT1 := Aside0.mk (fun k (h : some k = v.ownBlock) => (Or.inl h : some k = v.ownBlock ∨ W.heap.size ≤ k))
    have HB1 := Aside0.mk HBW.out
    obtain ⟨v1, hv1⟩ : ∃ v1, v1 = v := ⟨_, rfl⟩
    rw [← hv1] at HENV1 HS1
    have HAT1 := Aside0.mk (show ∀ k, some k = v1.ownBlock → some k = v.ownBlock ∨ W.heap.size ≤ k by rw [hv1]; exact HAT1.out)
    clear hS hR hlx hrow hlen henv hBN hNW ho1 ho2 ho3 hb1 hXX hL1 hmost hv1
    go_enter Try.func131, Try.ntmps131
    go_wp2
    go_loopg [6] k (fun kq v6 wr => ∃ (p : Int) (L2 Y : List (List Int)) (v2 : Value), v6 = .int .i64 p ∧ 1 ≤ p ∧ p ≤ 101 ∧ Aside0 (frL kq n ([] : List Int) most p = some Y) ∧ Aside0 (kq ≤ k) ∧ Aside0 (L2 ++ Y = XX) ∧ Aside0 (FrEnv wr bo bn ba n v2) ∧ Aside0 (Kd.S (Kd.slice 3 (Kd.int .i64)) 22 wr B (okF bo bn ba) v2 L2) ∧ Aside0 (Kd.F (Kd.int .i64) wr (fun k => (okF bo bn ba k ∧ N0 ≤ k) ∧ k < W.heap.size) A ([] : List Int).length ([] : List Int)) ∧ Aside0 (Touch W wr (tF bo v)) ∧ Aside0 (∀ k, some k = v2.ownBlock → some k = v.ownBlock ∨ W.heap.size ≤ k) ∧ Aside0 (Below B w0 wr))
    case atStart => exact ⟨1, L1, b, _, rfl, by omega, by omega, HM, ⟨Nat.le_refl _⟩, HL1, HENV1, HS1, HF1, HT1, HAT1, HB1⟩
    case round =>
      clear HM HL1 HENV1 HS1 HF1 HT1 HAT1 HB1
      obtain ⟨p, L2, Y, v2, rfl, hp1, hp2, HM, HK, HL2, HENV, HS, HFR, HT, HAT, HB⟩ := hrel
      cases gk with
      | zero => exact absurd HM.out (by simp [frL])
      | succ k3 =>
      have H := HM.out
      rw [frL] at H
      by_cases hpm : p ≤ most
      · rw [if_pos hpm] at H
        obtain ⟨nx, hnx⟩ : ∃ nx, nx = ([] : List Int) ++ [p] := ⟨_, rfl⟩
        have hnl : nx.length = ([] : List Int).length + 1 := by rw [hnx]; simp
        rw [← hnx, ← hnl] at H
        have hpd : decide (p ≤ most) = true := decide_eq_true hpm
        have HPM := Aside0.mk (show p + 1 ≤ 101 by omega)
        have hcl := slices_Clone_int_int.calls A c ([] : List Int) ([] : List Int) wr (Kd.F_now HFR.out) HC.out (by unfold slices_Clone_int_int.f; rw [if_pos (by first | omega | simp)])
        have hba : wr.cell? ⟨ba, 0, none⟩ = _ := blk_cell HENV.out.add 0
        have HN3 := Aside0.mk (show bo < wr.heap.size ∧ bn < wr.heap.size ∧ ba < wr.heap.size from ⟨blk_lt HENV.out.out, blk_lt HENV.out.num, blk_lt HENV.out.add⟩)
        have HNX := Aside0.mk hnx
        have HBS := Aside0.mk (show B ≤ wr.heap.size from Nat.le_trans (Nat.le_trans HN.out.1 HN.out.2.1) HT.out.size)
        have hnl2 : nx.length ≤ 1000001 := by omega
        have hnl1 : 1 ≤ nx.length := by omega
        have HLR := Aside0.mk (show (([] : List Int).length + 1) * 8 ≤ 140737488355328 by omega)
        have HNL := Aside0.mk hnl
        have HPB := Aside0.mk (show ∀ x ∈ nx, x ≤ 100 from by
          intro x hx
          rw [hnx] at hx
          rcases List.mem_append.1 hx with h | h
          · exact HW0.out x h
          · rw [List.mem_singleton.1 h]; omega)
        clear HM hnx hnl
        by_cases htd : ((nx.length : Nat) : Int) < rd nx 0
        · rw [if_pos htd] at H
          obtain ⟨a, ha, H⟩ := Option.bind_eq_some_iff.1 H
          obtain ⟨b2, hb2, H⟩ := Option.bind_eq_some_iff.1 H
          obtain rfl := Option.some.inj H
          have htdd : decide ((nx.length : Int) < rd nx 0) = true := decide_eq_true htd
          have HA := Aside0.mk ha
          have HB2 := Aside0.mk hb2
          clear H ha hb2 hpm htd
          have HMB := Aside0.mk (show ∀ k, tF bo v2 k → tF bo v k ∨ W.heap.size ≤ k from fun k hk => hk.elim (fun e => .inl (.inl e)) (fun e => (HAT.out k e).elim (fun e => .inl (.inr e)) .inr))
          have HMN := Aside0.mk (show ∀ k, (okF bo bn ba k ∧ N0 ≤ k) ∧ k < W.heap.size → ¬ tF bo v2 k from fun k hk he => he.elim hk.1.1.1 (fun e => (HAT.out k e).elim (fun e => by have := (HV.out k e).2; have := hk.1.2; omega) (fun e => by have := hk.2; omega)))
          have HMS := Aside0.mk (show ∀ k, tF bo v2 k → B ≤ k from fun k hk => hk.elim (fun e => e ▸ HBO.out) (fun e => Kd.S_base HS.out k e.symm))
          go_wp2_with (first | (go_at_call 132; refine hcl.mono ?_; rintro e w2 ⟨vc, rfl, hR2, hb2⟩; have HR2 := Aside0.mk (Kd.R_mono (ok' := fun k => okF bo bn ba k ∧ wr.heap.size ≤ k) (Kd.R_bound hR2) (fun k hk => ⟨⟨by have := hk.2.1; have := HN3.out; omega, by have := hk.2.1; have := HN3.out; omega, by have := hk.2.1; have := HN3.out; omega⟩, hk.2.1⟩)); have HBC := Aside0.mk hb2; clear hR2 hb2) | ((with_reducible refine gate_builtin (b := .append) (xs := #[.tmp 31, .tmp 33]) rfl ?_); at_builtin; refine Kd.R_append (Kd.int .i64) (w0 := wr) wr.heap.size rfl (.tmp 31) (.tmp 33) 22 3 (.int .i64 0) 8 rfl Try.underlying22 info_ints2 rfl (by decide) (by omega) vc ([] : List Int) p [.int .i64 p] (fun k => okF bo bn ba k ∧ wr.heap.size ≤ k) (fun _ => False) rfl rfl rfl (fun _ hk => hk.elim) ?aF HR2.out HBC.out HBC.out.size HLR.out ?_; (case aF => exact fun k hk => by have := HN3.out; have := HBC.out.size; exact ⟨⟨by omega, by omega, by omega⟩, by omega⟩); intro v3 w3 ho hb hg hat; rw [← HNX.out] at ho; obtain ⟨g3, c3, rfl, _, _, _⟩ := Kd.R_form ho (by omega); have hx3 : w3.cell? ⟨g3, 0, none⟩ = some (.int .i64 (rd nx 0)) := (by have := Kd.foot_int (Kd.R_reads' ho).2.2 0 (by omega) (by omega); rwa [add_plain] at this); have he3 := HENV.out.below hb; have hba3 : w3.cell? ⟨ba, 0, none⟩ = some (.func (.func 131) #[] #[.pointer (some ⟨bo, 0, none⟩), .pointer (some ⟨bn, 0, none⟩), .pointer (some ⟨ba, 0, none⟩)]) := blk_cell he3.add 0; have HENV3 := Aside0.mk he3; have HS3 := Aside0.mk (Kd.S_old HS.out hb); have HR3 := Aside0.mk (Kd.R_lower ho HBS.out); have HB3 := Aside0.mk (HB.out.trans (hb.mono HBS.out)); have HT3 := Aside0.mk (HT.out.then_below hb); have HFR3 := Aside0.mk (Kd.F_below HFR.out hb); have HSZ3 := Aside0.mk hb.size; clear ho hb hg hat he3) | (go_at_fn 131; refine (IH.out k3 (by have := HK.out; omega) nx a L2 wr.heap.size (some ⟨g3, 0, none⟩) c3 v2 w3 HA.out (by have := HK.out; have := HLEN.out; have := HNL.out; omega) HPB.out (by have := HXT.out; rw [← HL2.out] at this; simp only [List.length_append] at this ⊢; omega) HENV3.out HBS.out HSZ3.out HN3.out.1 HN3.out.2.1 HN3.out.2.2 HB3.out HS3.out HR3.out).mono ?_; rintro e w4 ⟨rfl, v4, he4, hs4, ht4, hat4⟩; have HENV4 := Aside0.mk he4; have HS4 := Aside0.mk hs4; have HT4 := Aside0.mk ht4; have HAT4 := Aside0.mk hat4; clear he4 hs4 ht4 hat4 hx3 hba3 hba))
          have HL5 := Aside0.mk (show (L2 ++ a) ++ b2 = XX by rw [List.append_assoc]; exact HL2.out)
          go_roundg k3
          case measure => have := HK.out; omega
          case rel => exact ⟨p + 1, L2 ++ a, b2, v4, by go_num, by omega, HPM.out, HB2, ⟨by have := HK.out; omega⟩, HL5, HENV4, HS4, ⟨HT4.out.F HFR3.out HMN.out⟩, ⟨HT3.out.trans HT4.out HMB.out⟩, ⟨fun k hk => (HAT4.out k hk).elim (fun e => HAT.out k e) (fun e => .inr (Nat.le_trans HT3.out.size e))⟩, ⟨HB3.out.trans (HT4.out.below HMS.out (Nat.le_trans HBS.out HSZ3.out))⟩⟩
        · rw [if_neg htd] at H
          have htdd : decide ((nx.length : Int) < rd nx 0) = false := decide_eq_false htd
          have HM := Aside0.mk H
          clear H hpm htd
          go_wp2_with (first | (go_at_call 132; refine hcl.mono ?_; rintro e w2 ⟨vc, rfl, hR2, hb2⟩; have HR2 := Aside0.mk (Kd.R_mono (ok' := fun k => okF bo bn ba k ∧ wr.heap.size ≤ k) (Kd.R_bound hR2) (fun k hk => ⟨⟨by have := hk.2.1; have := HN3.out; omega, by have := hk.2.1; have := HN3.out; omega, by have := hk.2.1; have := HN3.out; omega⟩, hk.2.1⟩)); have HBC := Aside0.mk hb2; clear hR2 hb2) | ((with_reducible refine gate_builtin (b := .append) (xs := #[.tmp 31, .tmp 33]) rfl ?_); at_builtin; refine Kd.R_append (Kd.int .i64) (w0 := wr) wr.heap.size rfl (.tmp 31) (.tmp 33) 22 3 (.int .i64 0) 8 rfl Try.underlying22 info_ints2 rfl (by decide) (by omega) vc ([] : List Int) p [.int .i64 p] (fun k => okF bo bn ba k ∧ wr.heap.size ≤ k) (fun _ => False) rfl rfl rfl (fun _ hk => hk.elim) ?aF HR2.out HBC.out HBC.out.size HLR.out ?_; (case aF => exact fun k hk => by have := HN3.out; have := HBC.out.size; exact ⟨⟨by omega, by omega, by omega⟩, by omega⟩); intro v3 w3 ho hb hg hat; rw [← HNX.out] at ho; obtain ⟨g3, c3, rfl, _, _, _⟩ := Kd.R_form ho (by omega); have hx3 : w3.cell? ⟨g3, 0, none⟩ = some (.int .i64 (rd nx 0)) := (by have := Kd.foot_int (Kd.R_reads' ho).2.2 0 (by omega) (by omega); rwa [add_plain] at this); have he3 := HENV.out.below hb; have hba3 : w3.cell? ⟨ba, 0, none⟩ = some (.func (.func 131) #[] #[.pointer (some ⟨bo, 0, none⟩), .pointer (some ⟨bn, 0, none⟩), .pointer (some ⟨ba, 0, none⟩)]) := blk_cell he3.add 0; have HENV3 := Aside0.mk he3; have HS3 := Aside0.mk (Kd.S_old HS.out hb); have HR3 := Aside0.mk (Kd.R_lower ho HBS.out); have HB3 := Aside0.mk (HB.out.trans (hb.mono HBS.out)); have HT3 := Aside0.mk (HT.out.then_below hb); have HFR3 := Aside0.mk (Kd.F_below HFR.out hb); have HSZ3 := Aside0.mk hb.size; clear ho hb hg hat he3))
          go_roundg k3
          case measure => have := HK.out; omega
          case rel => exact ⟨p + 1, L2, Y, v2, by go_num, by omega, HPM.out, HM, ⟨by have := HK.out; omega⟩, HL2, HENV3, ⟨Kd.S_mono HS3.out (fun k hk => hk.1)⟩, HFR3, HT3, HAT, HB3⟩
      · rw [if_neg hpm] at H
        obtain rfl := Option.some.inj H
        have hpd : decide (p ≤ most) = false := decide_eq_false hpm
        have HL3 := Aside0.mk (show L2 = XX by have := HL2.out; rwa [List.append_nil] at this)
        clear H hpm HM
        go_wp2
        go_end0
        exact ⟨rfl, v2, HENV.out, by rw [← HL3.out]; exact HS.out, HT.out, HAT.out⟩
  case neg =>
    have hpos : 0 < row.length := List.length_pos_iff.2 hr
    obtain ⟨g, cap, e1, hgB, hgl, _⟩ := Kd.R_form hR hpos
    injection e1 with e1 _ e2
    subst e1 e2
    have hposd : decide (0 < row.length) = true := decide_eq_true hpos
    have hge1 : 1 ≤ row.length := hpos
    have hlz : (0 : Int) ≤ (row.length : Int) - 1 := by omega
    rw [if_pos hpos] at hb1 hXX
    obtain ⟨most, hmost⟩ : ∃ m, m = rd row ((row.length : Int) - 1) := ⟨_, rfl⟩
    have hm0 := hrow row[row.length - 1] (List.getElem_mem (by omega))
    have hm1 : rd row ((row.length - 1 : Nat) : Int) = row[row.length - 1] := rd_of row (row.length - 1) (by omega)
    have hcast : ((row.length - 1 : Nat) : Int) = (row.length : Int) - 1 := by omega
    rw [hcast] at hb1 hm1
    rw [← hmost] at hb1 hm1
    have hn : most ≤ 100 := by rw [hm1]; exact hm0
    have HM := Aside0.mk hb1
    obtain ⟨L1, hL1⟩ : ∃ L1, L1 = L ++ [row] := ⟨_, rfl⟩
    have HL1 := Aside0.mk (show L1 ++ b = XX by rw [hXX, hL1, List.append_assoc])
    have HLE := Aside0.mk hL1
    have HENV := Aside0.mk henv
    have HSS := Aside0.mk hS
    have HRR := Aside0.mk hR
    have HMO := Aside0.mk hmost
    have hnsz : N0 ≤ W.heap.size := hNW
    have HLL := Aside0.mk (show (L.length + 1) * 24 ≤ 140737488355328 by have := hlx; rw [hXX, List.length_append] at this; omega)
    clear hS hR hlx hrow hlen hgB hgl henv hBN hNW ho1 ho2 ho3 hb1 hr hpos hXX hm0 hm1 hcast hL1 hmost
    go_enter Try.func131, Try.ntmps131
    go_wp2_with (first | ((with_reducible refine gate_builtin (b := .append) (xs := #[.tmp 11, .tmp 13]) rfl ?_); at_builtin; refine Kd.S_append (Kd.slice 3 (Kd.int .i64)) (w0 := w0) B rfl (.tmp 11) (.tmp 13) 36 22 (.slice none 0 0) 24 rfl Try.underlying36 info_rows2 rfl (by decide) (by omega) v L row [.slice (some ⟨g, 0, none⟩) row.length c] (okF bo bn ba) (fun k => okF bo bn ba k ∧ N0 ≤ k) rfl rfl (Kd.M_row HRR.out) ?aP ?aF ?aO HBW.out (Nat.le_trans HN.out.1 HN.out.2.1) HLL.out ?_; (case aP => exact fun k hk => ⟨hk.1, fun e => by have := ((Kd.S_R HSS.out).1 k e.symm).2; have := hk.2; omega⟩); (case aF => exact fun k hk => ⟨by omega, by omega, by omega⟩); (case aO => exact Kd.S_mono HSS.out (fun k hk => ⟨hk.1, fun h2 => by have := hk.2; have := h2.2; omega⟩)); intro v1 w1 ho hb hg hat; rw [← HLE.out] at ho; obtain ⟨A1, n1, c1, rfl⟩ := slice3 ho; obtain ⟨hc1, hf1, hn1, he1, hs1, hfr1, ht1, hat1⟩ := fr_app HENV.out HSS.out (Kd.F_bound HF.out) hg ho hat; have hx1 := Kd.foot_int (Kd.F_now hfr1) ((row.length : Int) - 1) (by omega) (by omega); rw [add_plain, ← HMO.out, show (((row.length : Int) - 1).toNat) = row.length - 1 by omega] at hx1; have HENV1 := Aside0.mk he1; have HS1 := Aside0.mk hs1; have HF1 := Aside0.mk hfr1; have HT1 := Aside0.mk ht1; have HAT1 := Aside0.mk hat1; have HB1 := Aside0.mk (hb.setCell (p := ⟨bo, 0, none⟩) HBO.out (.slice A1 n1 c1)); clear ho hb hg hat he1 hs1 hfr1 ht1 hat1))
    go_loopg [6] k (fun kq v6 wr => ∃ (p : Int) (L2 Y : List (List Int)) (v2 : Value), v6 = .int .i64 p ∧ 1 ≤ p ∧ p ≤ 101 ∧ Aside0 (frL kq n row most p = some Y) ∧ Aside0 (kq ≤ k) ∧ Aside0 (L2 ++ Y = XX) ∧ Aside0 (FrEnv wr bo bn ba n v2) ∧ Aside0 (Kd.S (Kd.slice 3 (Kd.int .i64)) 22 wr B (okF bo bn ba) v2 L2) ∧ Aside0 (Kd.F (Kd.int .i64) wr (fun k => (okF bo bn ba k ∧ N0 ≤ k) ∧ k < W.heap.size) (some ⟨g, 0, none⟩) row.length row) ∧ Aside0 (Touch W wr (tF bo v)) ∧ Aside0 (∀ k, some k = v2.ownBlock → some k = v.ownBlock ∨ W.heap.size ≤ k) ∧ Aside0 (Below B w0 wr))
    case atStart => exact ⟨1, L1, b, _, rfl, by omega, by omega, HM, ⟨Nat.le_refl _⟩, HL1, HENV1, HS1, HF1, HT1, HAT1, HB1⟩
    case round =>
      clear HM HL1 HENV1 HS1 HF1 HT1 HAT1 HB1
      obtain ⟨p, L2, Y, v2, rfl, hp1, hp2, HM, HK, HL2, HENV, HS, HFR, HT, HAT, HB⟩ := hrel
      cases gk with
      | zero => exact absurd HM.out (by simp [frL])
      | succ k3 =>
      have H := HM.out
      rw [frL] at H
      by_cases hpm : p ≤ most
      · rw [if_pos hpm] at H
        obtain ⟨nx, hnx⟩ : ∃ nx, nx = row ++ [p] := ⟨_, rfl⟩
        have hnl : nx.length = row.length + 1 := by rw [hnx]; simp
        rw [← hnx, ← hnl] at H
        have hpd : decide (p ≤ most) = true := decide_eq_true hpm
        have HPM := Aside0.mk (show p + 1 ≤ 101 by omega)
        have hcl := slices_Clone_int_int.calls (some ⟨g, 0, none⟩) c row row wr (Kd.F_now HFR.out) HC.out (by unfold slices_Clone_int_int.f; rw [if_pos (by first | omega | simp)])
        have hba : wr.cell? ⟨ba, 0, none⟩ = _ := blk_cell HENV.out.add 0
        have HN3 := Aside0.mk (show bo < wr.heap.size ∧ bn < wr.heap.size ∧ ba < wr.heap.size from ⟨blk_lt HENV.out.out, blk_lt HENV.out.num, blk_lt HENV.out.add⟩)
        have HNX := Aside0.mk hnx
        have HBS := Aside0.mk (show B ≤ wr.heap.size from Nat.le_trans (Nat.le_trans HN.out.1 HN.out.2.1) HT.out.size)
        have hnl2 : nx.length ≤ 1000001 := by omega
        have hnl1 : 1 ≤ nx.length := by omega
        have HLR := Aside0.mk (show (row.length + 1) * 8 ≤ 140737488355328 by omega)
        have HNL := Aside0.mk hnl
        have HPB := Aside0.mk (show ∀ x ∈ nx, x ≤ 100 from by
          intro x hx
          rw [hnx] at hx
          rcases List.mem_append.1 hx with h | h
          · exact HW0.out x h
          · rw [List.mem_singleton.1 h]; omega)
        clear HM hnx hnl
        by_cases htd : ((nx.length : Nat) : Int) < rd nx 0
        · rw [if_pos htd] at H
          obtain ⟨a, ha, H⟩ := Option.bind_eq_some_iff.1 H
          obtain ⟨b2, hb2, H⟩ := Option.bind_eq_some_iff.1 H
          obtain rfl := Option.some.inj H
          have htdd : decide ((nx.length : Int) < rd nx 0) = true := decide_eq_true htd
          have HA := Aside0.mk ha
          have HB2 := Aside0.mk hb2
          clear H ha hb2 hpm htd
          have HMB := Aside0.mk (show ∀ k, tF bo v2 k → tF bo v k ∨ W.heap.size ≤ k from fun k hk => hk.elim (fun e => .inl (.inl e)) (fun e => (HAT.out k e).elim (fun e => .inl (.inr e)) .inr))
          have HMN := Aside0.mk (show ∀ k, (okF bo bn ba k ∧ N0 ≤ k) ∧ k < W.heap.size → ¬ tF bo v2 k from fun k hk he => he.elim hk.1.1.1 (fun e => (HAT.out k e).elim (fun e => by have := (HV.out k e).2; have := hk.1.2; omega) (fun e => by have := hk.2; omega)))
          have HMS := Aside0.mk (show ∀ k, tF bo v2 k → B ≤ k from fun k hk => hk.elim (fun e => e ▸ HBO.out) (fun e => Kd.S_base HS.out k e.symm))
          go_wp2_with (first | (go_at_call 132; refine hcl.mono ?_; rintro e w2 ⟨vc, rfl, hR2, hb2⟩; have HR2 := Aside0.mk (Kd.R_mono (ok' := fun k => okF bo bn ba k ∧ wr.heap.size ≤ k) (Kd.R_bound hR2) (fun k hk => ⟨⟨by have := hk.2.1; have := HN3.out; omega, by have := hk.2.1; have := HN3.out; omega, by have := hk.2.1; have := HN3.out; omega⟩, hk.2.1⟩)); have HBC := Aside0.mk hb2; clear hR2 hb2) | ((with_reducible refine gate_builtin (b := .append) (xs := #[.tmp 31, .tmp 33]) rfl ?_); at_builtin; refine Kd.R_append (Kd.int .i64) (w0 := wr) wr.heap.size rfl (.tmp 31) (.tmp 33) 22 3 (.int .i64 0) 8 rfl Try.underlying22 info_ints2 rfl (by decide) (by omega) vc row p [.int .i64 p] (fun k => okF bo bn ba k ∧ wr.heap.size ≤ k) (fun _ => False) rfl rfl rfl (fun _ hk => hk.elim) ?aF HR2.out HBC.out HBC.out.size HLR.out ?_; (case aF => exact fun k hk => by have := HN3.out; have := HBC.out.size; exact ⟨⟨by omega, by omega, by omega⟩, by omega⟩); intro v3 w3 ho hb hg hat; rw [← HNX.out] at ho; obtain ⟨g3, c3, rfl, _, _, _⟩ := Kd.R_form ho (by omega); have hx3 : w3.cell? ⟨g3, 0, none⟩ = some (.int .i64 (rd nx 0)) := (by have := Kd.foot_int (Kd.R_reads' ho).2.2 0 (by omega) (by omega); rwa [add_plain] at this); have he3 := HENV.out.below hb; have hba3 : w3.cell? ⟨ba, 0, none⟩ = some (.func (.func 131) #[] #[.pointer (some ⟨bo, 0, none⟩), .pointer (some ⟨bn, 0, none⟩), .pointer (some ⟨ba, 0, none⟩)]) := blk_cell he3.add 0; have HENV3 := Aside0.mk he3; have HS3 := Aside0.mk (Kd.S_old HS.out hb); have HR3 := Aside0.mk (Kd.R_lower ho HBS.out); have HB3 := Aside0.mk (HB.out.trans (hb.mono HBS.out)); have HT3 := Aside0.mk (HT.out.then_below hb); have HFR3 := Aside0.mk (Kd.F_below HFR.out hb); have HSZ3 := Aside0.mk hb.size; clear ho hb hg hat he3) | (go_at_fn 131; refine (IH.out k3 (by have := HK.out; omega) nx a L2 wr.heap.size (some ⟨g3, 0, none⟩) c3 v2 w3 HA.out (by have := HK.out; have := HLEN.out; have := HNL.out; omega) HPB.out (by have := HXT.out; rw [← HL2.out] at this; simp only [List.length_append] at this ⊢; omega) HENV3.out HBS.out HSZ3.out HN3.out.1 HN3.out.2.1 HN3.out.2.2 HB3.out HS3.out HR3.out).mono ?_; rintro e w4 ⟨rfl, v4, he4, hs4, ht4, hat4⟩; have HENV4 := Aside0.mk he4; have HS4 := Aside0.mk hs4; have HT4 := Aside0.mk ht4; have HAT4 := Aside0.mk hat4; clear he4 hs4 ht4 hat4 hx3 hba3 hba))
          have HL5 := Aside0.mk (show (L2 ++ a) ++ b2 = XX by rw [List.append_assoc]; exact HL2.out)
          go_roundg k3
          case measure => have := HK.out; omega
          case rel => exact ⟨p + 1, L2 ++ a, b2, v4, by go_num, by omega, HPM.out, HB2, ⟨by have := HK.out; omega⟩, HL5, HENV4, HS4, ⟨HT4.out.F HFR3.out HMN.out⟩, ⟨HT3.out.trans HT4.out HMB.out⟩, ⟨fun k hk => (HAT4.out k hk).elim (fun e => HAT.out k e) (fun e => .inr (Nat.le_trans HT3.out.size e))⟩, ⟨HB3.out.trans (HT4.out.below HMS.out (Nat.le_trans HBS.out HSZ3.out))⟩⟩
        · rw [if_neg htd] at H
          have htdd : decide ((nx.length : Int) < rd nx 0) = false := decide_eq_false htd
          have HM := Aside0.mk H
          clear H hpm htd
          go_wp2_with (first | (go_at_call 132; refine hcl.mono ?_; rintro e w2 ⟨vc, rfl, hR2, hb2⟩; have HR2 := Aside0.mk (Kd.R_mono (ok' := fun k => okF bo bn ba k ∧ wr.heap.size ≤ k) (Kd.R_bound hR2) (fun k hk => ⟨⟨by have := hk.2.1; have := HN3.out; omega, by have := hk.2.1; have := HN3.out; omega, by have := hk.2.1; have := HN3.out; omega⟩, hk.2.1⟩)); have HBC := Aside0.mk hb2; clear hR2 hb2) | ((with_reducible refine gate_builtin (b := .append) (xs := #[.tmp 31, .tmp 33]) rfl ?_); at_builtin; refine Kd.R_append (Kd.int .i64) (w0 := wr) wr.heap.size rfl (.tmp 31) (.tmp 33) 22 3 (.int .i64 0) 8 rfl Try.underlying22 info_ints2 rfl (by decide) (by omega) vc row p [.int .i64 p] (fun k => okF bo bn ba k ∧ wr.heap.size ≤ k) (fun _ => False) rfl rfl rfl (fun _ hk => hk.elim) ?aF HR2.out HBC.out HBC.out.size HLR.out ?_; (case aF => exact fun k hk => by have := HN3.out; have := HBC.out.size; exact ⟨⟨by omega, by omega, by omega⟩, by omega⟩); intro v3 w3 ho hb hg hat; rw [← HNX.out] at ho; obtain ⟨g3, c3, rfl, _, _, _⟩ := Kd.R_form ho (by omega); have hx3 : w3.cell? ⟨g3, 0, none⟩ = some (.int .i64 (rd nx 0)) := (by have := Kd.foot_int (Kd.R_reads' ho).2.2 0 (by omega) (by omega); rwa [add_plain] at this); have he3 := HENV.out.below hb; have hba3 : w3.cell? ⟨ba, 0, none⟩ = some (.func (.func 131) #[] #[.pointer (some ⟨bo, 0, none⟩), .pointer (some ⟨bn, 0, none⟩), .pointer (some ⟨ba, 0, none⟩)]) := blk_cell he3.add 0; have HENV3 := Aside0.mk he3; have HS3 := Aside0.mk (Kd.S_old HS.out hb); have HR3 := Aside0.mk (Kd.R_lower ho HBS.out); have HB3 := Aside0.mk (HB.out.trans (hb.mono HBS.out)); have HT3 := Aside0.mk (HT.out.then_below hb); have HFR3 := Aside0.mk (Kd.F_below HFR.out hb); have HSZ3 := Aside0.mk hb.size; clear ho hb hg hat he3))
          go_roundg k3
          case measure => have := HK.out; omega
          case rel => exact ⟨p + 1, L2, Y, v2, by go_num, by omega, HPM.out, HM, ⟨by have := HK.out; omega⟩, HL2, HENV3, ⟨Kd.S_mono HS3.out (fun k hk => hk.1)⟩, HFR3, HT3, HAT, HB3⟩
      · rw [if_neg hpm] at H
        obtain rfl := Option.some.inj H
        have hpd : decide (p ≤ most) = false := decide_eq_false hpm
        have HL3 := Aside0.mk (show L2 = XX by have := HL2.out; rwa [List.append_nil] at this)
        clear H hpm HM
        go_wp2
        go_end0
        exact ⟨rfl, v2, HENV.out, by rw [← HL3.out]; exact HS.out, HT.out, HAT.out⟩

theorem blk_new_at {w : World} {o : Obj} {g : Nat} (h : g = w.heap.size) : (w.alloc o).heap[g]? = some o := h ▸ blk_new w o
theorem S_empty {α : Type} {d : Kd α} {e : Nat} {W : World} {B g : Nat} {ok : Nat → Prop} (h : W.heap[g]? = some (.cells #[] e (0, 0))) (hB : B ≤ g) (hok : ok g) : Kd.S d e W B ok (.slice (some ⟨g, 0, none⟩) 0 0) [] := by
  refine ⟨fun _ => 0, fun k hk => ?_, [], ⟨by simp, .inr ⟨g, 0, #[], rfl, hB, h, Nat.le_refl _, by unfold maxLen; omega, by simp, by simp⟩⟩, Reps.none _ _⟩
  have : g = k := by simpa [Value.ownBlock] using hk
  exact this ▸ hok
end Go.Proofs.Ytdcdkckpmkfjdaa

namespace Go.Proofs.Ytdcdkckpmkfjdaa.L
open Go.RowKit Go.Proofs.Ytdcdkckpmkfjdaa Go.Proofs.Ytdcdkckpmkfjdaa.P Go.Proofs.YtdcdkckpmkfjdaaW.PrintWords Go.Proofs.YtdcdkckpmkfjdaaW.PrintLast Go.Proofs.YtdcdkckpmkfjdaaW.PrintMore
set_option linter.unusedVariables false
set_option maxRecDepth 100000

theorem in_eq (a b c : Int) : spec_l1In.f a b c = some (inB a b c) := by
  unfold spec_l1In.f inB
  by_cases h : a ≥ b
  · rw [if_pos h, decide_eq_true (show b ≤ a from h), Bool.true_and]
  · rw [if_neg h, decide_eq_false (show ¬ b ≤ a from h), Bool.false_and]
theorem inB_true {n lo hi : Int} (h : inB n lo hi = true) : lo ≤ n ∧ n ≤ hi := (inB_iff n lo hi).1 h
/-- All rows that can be the first one for n. -/
def frX (n : Int) : List (List Int) := (frE 100 n []).getD []
end Go.Proofs.Ytdcdkckpmkfjdaa.L

namespace Go.Proofs.Ytdcdkckpmkfjdaa.L
open Go.RowKit Go.Proofs.Ytdcdkckpmkfjdaa Go.Proofs.Ytdcdkckpmkfjdaa.P Go.Proofs.YtdcdkckpmkfjdaaW.PrintWords Go.Proofs.YtdcdkckpmkfjdaaW.PrintLast Go.Proofs.YtdcdkckpmkfjdaaW.PrintMore
set_option linter.unusedVariables false

def stB (a x : List Int) : Nat → Nat → Bool
  | 0, _ => true
  | d + 1, i => if rd x (i : Int) ≥ rd a ((i + 1 : Nat) : Int) then false else stB a x d (i + 1)
/-- x can stand below a. -/
def standsB (a x : List Int) : Bool := if rd x 0 > (a.length : Int) then false else if (x.length : Int) ≥ (a.length : Int) then false else stB a x x.length 0
theorem impl_st_l0 (a x : List Int) (hxa : x.length < a.length) (ha : a.length ≤ 1000000) : ∀ (d i : Nat), i + d = x.length → Ev (fun k => impl_standsBelow.l0 k a x (x.length : Int) i) (stB a x d i) := by
  intro d
  induction d with
  | zero =>
    intro i hi
    refine Ev.step (fun k => by rw [impl_standsBelow.l0]) ?_
    exact Ev.ite_neg (by omega) (Ev.now _)
  | succ d ih =>
    intro i hi
    refine Ev.step (fun k => by rw [impl_standsBelow.l0]) ?_
    rw [wrapS i (by omega), stB]
    refine Ev.ite_pos (by omega) (Ev.ite_pos (by omega) (Ev.ite_pos (by omega) (Ev.ite_pos (by omega) (Ev.ite_pos (by omega) ?_))))
    by_cases h : rd x (i : Int) ≥ rd a ((i + 1 : Nat) : Int)
    · rw [if_pos h]; exact Ev.ite_pos h (Ev.now _)
    · rw [if_neg h]; exact Ev.ite_neg h (ih (i + 1) (by omega))
theorem impl_stands_ev (a x : List Int) (hx : 0 < x.length) (ha : a.length ≤ 1000000) : Ev (fun k => impl_standsBelow.f k a x) (standsB a x) := by
  unfold impl_standsBelow.f standsB
  refine Ev.ite_pos (by omega) ?_
  by_cases h : rd x 0 > (a.length : Int)
  · rw [if_pos h]
    exact Ev.ite_pos h (Ev.step (fun k => by rw [impl_standsBelow.j0]) (Ev.ite_pos rfl (Ev.now _)))
  · rw [if_neg h]
    refine Ev.ite_neg h (Ev.step (fun k => by rw [impl_standsBelow.j0]) ?_)
    by_cases h2 : (x.length : Int) ≥ (a.length : Int)
    · rw [if_pos h2]; exact Ev.ite_pos (decide_eq_true h2) (Ev.now _)
    · rw [if_neg h2]; exact Ev.ite_neg (by simp only [decide_eq_true_eq]; exact h2) (impl_st_l0 a x (by omega) ha x.length 0 (by omega))
end Go.Proofs.Ytdcdkckpmkfjdaa.L

namespace Go.Proofs.Ytdcdkckpmkfjdaa
open Go.RowKit Go.Proofs.YtdcdkckpmkfjdaaW.PrintWords Go.Proofs.YtdcdkckpmkfjdaaW.PrintLast Go.Proofs.YtdcdkckpmkfjdaaW.PrintMore
set_option linter.unusedVariables false
set_option linter.unusedSimpArgs false

/-- A row of rows of the call's own, the rows only read. -/
structure RawN (W : World) (B : Nat) (ok : Nat → Prop) (g cap : Nat) (us : List Value) (l : List (List Int)) : Prop where
  len : us.length = l.length
  le : l.length ≤ cap
  max : cap ≤ maxLen
  ge : B ≤ g
  okg : ok g
  top : ∃ cur : Array Value, W.heap[g]? = some (.cells cur 22 (0, 0)) ∧ cur.size = cap ∧ cur.toList.take l.length = us
  each : ∀ (j : Nat) (x : List Int) (u : Value), l[j]? = some x → us[j]? = some u → Kd.FK (Kd.slice 3 (Kd.int .i64)) W (fun k => ok k ∧ k ≠ g) x [u]
theorem RawN.of_N {W : World} {B : Nat} {ok : Nat → Prop} {g n cap : Nat} {l : List (List Int)} (h : Kd.N (Kd.slice 3 (Kd.int .i64)) 22 W B ok (.slice (some ⟨g, 0, none⟩) n cap) l) : n = l.length ∧ ∃ us, RawN W B ok g cap us l := by
  obtain ⟨h0, rows, hl, hR, hf⟩ := h
  obtain ⟨_, inner, ho, hr⟩ := hR
  obtain ⟨hlen, hc⟩ := ho
  rcases hc with ⟨hc, _⟩ | ⟨g', cap', cur, hv, hb, hh, hle, hmx, hsz, htk⟩
  · cases hc
  · injection hv with e1 e2 e3
    injection e1 with e1
    injection e1 with e1
    subst e1 e2 e3
    have hsz1 : (Kd.raw (Kd.slice 3 (Kd.int .i64)).sz).sz = 1 := rfl
    rw [hsz1, Nat.mul_one] at hlen hsz htk
    rw [hl] at hlen hle htk
    refine ⟨hl, inner, ⟨hlen, hle, hmx, hb, h0 _ rfl, ⟨cur, hh, hsz, htk⟩, fun j x u hx hu => ?_⟩⟩
    have hj : j < l.length := (List.getElem?_eq_some_iff.1 hx).1
    have hj2 : j < rows.length := by rw [hl]; exact hj
    have hj3 : j < inner.length := by rw [hlen]; exact hj
    have hc := (hr.2 j rows[j] (List.getElem?_eq_getElem hj2)).1
    rw [hsz1, Nat.mul_one, List.drop_eq_getElem_cons hj3, List.take_succ_cons, List.take_zero, (List.getElem?_eq_some_iff.1 hu).2] at hc
    have := hf j x rows[j] hx (List.getElem?_eq_getElem hj2)
    rw [← hc] at this
    exact Kd.FK_mono this (fun k hk => ⟨hk.1, fun e => hk.2 (by subst e; rfl)⟩)
theorem RawN.N {W : World} {B : Nat} {ok : Nat → Prop} {g cap : Nat} {us : List Value} {l : List (List Int)} (h : RawN W B ok g cap us l) : Kd.N (Kd.slice 3 (Kd.int .i64)) 22 W B ok (.slice (some ⟨g, 0, none⟩) l.length cap) l := by
  obtain ⟨cur, hh, hsz, htk⟩ := h.top
  have hsz1 : (Kd.raw (Kd.slice 3 (Kd.int .i64)).sz).sz = 1 := rfl
  have hlr : (us.map fun u => [u]).length = l.length := by rw [List.length_map, h.len]
  refine ⟨fun k hk => ?_, us.map fun u => [u], hlr, ⟨fun k hk => hk.symm, us, ?_, ?_⟩, ?_⟩
  · have : g = k := by simpa [Value.ownBlock] using hk
    exact this ▸ h.okg
  · rw [hlr]
    exact ⟨by rw [hsz1, Nat.mul_one]; exact h.len, .inr ⟨g, cap, cur, rfl, h.ge, hh, h.le, h.max, by rw [hsz1, Nat.mul_one]; exact hsz, by rw [hsz1, Nat.mul_one]; exact htk⟩⟩
  · refine ⟨by rw [hsz1, Nat.mul_one, List.length_map], fun j c hj => ?_⟩
    rw [List.getElem?_map] at hj
    obtain ⟨u, hu, rfl⟩ := Option.map_eq_some_iff.1 hj
    have hju : j < us.length := (List.getElem?_eq_some_iff.1 hu).1
    have hjl : j < l.length := by rw [← h.len]; exact hju
    rw [hsz1, Nat.mul_one, List.drop_eq_getElem_cons hju, List.take_succ_cons, List.take_zero, (List.getElem?_eq_some_iff.1 hu).2]
    exact ⟨rfl, rfl, (Kd.slice 3 (Kd.int .i64)).K_one (Kd.FK_now (h.each j l[j] u (List.getElem?_eq_getElem hjl) hu))⟩
  · intro j x c hx hc
    rw [List.getElem?_map] at hc
    obtain ⟨u, hu, rfl⟩ := Option.map_eq_some_iff.1 hc
    exact Kd.FK_mono (h.each j x u hx hu) (fun k hk => ⟨hk.1, fun e => hk.2 (by simpa [Value.ownBlock] using e)⟩)
theorem RawN.kept {W W' : World} {B : Nat} {ok : Nat → Prop} {g cap : Nat} {us : List Value} {l : List (List Int)} (h : RawN W B ok g cap us l) (hk : Kept W W' (fun k => k = g)) (j : Nat) (x : List Int) (u : Value) (hx : l[j]? = some x) (hu : us[j]? = some u) : Kd.FK (Kd.slice 3 (Kd.int .i64)) W' (fun k => ok k ∧ k ≠ g) x [u] :=
  Kd.FK_step (h.each j x u hx hu) (fun k hk2 hlt => hk.2 k hlt hk2.2)
/-- What is left. -/
theorem RawN.sel {W W' : World} {B : Nat} {ok : Nat → Prop} {g cap : Nat} {us : List Value} {l : List (List Int)} (h : RawN W B ok g cap us l) (hk : Kept W W' (fun k => k = g)) (p : List Int → Bool)
    (ht : ∃ cur : Array Value, W'.heap[g]? = some (.cells cur 22 (0, 0)) ∧ cur.size = cap ∧ cur.toList.take (selV p us l l.length).length = selV p us l l.length) :
    RawN W' B ok g cap (selV p us l l.length) (l.filter fun x => !p x) := by
  have e := selZ_rows p us l h.len
  have el : (l.filter fun x => !p x).length = (selZ p us l l.length).length := by rw [← e, List.length_map]
  refine ⟨by rw [el]; simp [selV], ?_, h.max, h.ge, h.okg, by rw [el, ← show (selV p us l l.length).length = (selZ p us l l.length).length from by simp [selV]]; exact ht, fun j x u hx hu => ?_⟩
  · rw [el]
    have := selV_le p us l l.length
    have := h.le
    simp only [selV, List.length_map] at *
    omega
  · rw [← e, List.getElem?_map] at hx
    obtain ⟨q, hq, hq2⟩ := Option.map_eq_some_iff.1 hx
    subst hq2
    have hu2 : u = q.1.1 := by
      unfold selV at hu
      rw [List.getElem?_map, hq] at hu
      exact (Option.some.inj hu).symm
    subst hu2
    obtain ⟨h1, h2⟩ := selZ_at p us l l.length j q hq
    exact h.kept hk q.2 q.1.2 q.1.1 h2 h1
/-- What DeleteFunc leaves. -/
def RetRaw (w : World) (B : Nat) (A : Option Addr) (cap : Nat) (p : List Int → Bool) (l : List (List Int)) (e : Ending) (w' : World) : Prop :=
  (e = .returned (.slice A l.length cap) ∧ (l.filter fun x => !p x) = l ∧ Below w.heap.size w w') ∨
  (∃ (g : Nat) (us : List Value), A = some ⟨g, 0, none⟩ ∧ us.length = l.length ∧ (∃ cur0 : Array Value, w.heap[g]? = some (.cells cur0 22 (0, 0)) ∧ cur0.toList.take l.length = us) ∧ e = .returned (.slice (some ⟨g, 0, none⟩) (l.filter fun x => !p x).length cap) ∧ Kept w w' (fun k => k = g) ∧ Below B w w' ∧ ∃ cur : Array Value, w'.heap[g]? = some (.cells cur 22 (0, 0)) ∧ cur.size = cap ∧ cur.toList.take (selV p us l l.length).length = selV p us l l.length)
set_option maxHeartbeats 4000000 in
set_option maxRecDepth 100000 in
theorem slices_DeleteFunc_raw.calls (gf : Nat) (lb : Array Value) (p : List Int → Bool) (B : Nat) (ok : Nat → Prop) (A : Option Addr) (cap : Nat) (l : List (List Int)) (w : World) (hBw : B ≤ w.heap.size) (hln : l.length ≤ 1000000)
    (eg : ∀ args w, (callFunc gf args).run Try.prog w = .ok (.enter gf args) w)
    (hp : ∀ (x : List Int) (A : Option Addr) (c : Nat) (W : World), x ∈ l → Below B w W → Kd.C (Kd.int .i64) W A x.length x → x.length ≤ c → Gives Try.prog gf (#[.slice A x.length c] ++ lb) W (.bool (p x)))
    (hS : Kd.N (Kd.slice 3 (Kd.int .i64)) 22 w B ok (.slice A l.length cap) l) :
    Calls Try.prog 133 #[.slice A l.length cap, .func (.func gf) #[] lb] w (RetRaw w B A cap p l) := by
  have hcon := slices_IndexFunc_rows.calls gf lb p A cap l w eg (fun x A c W hx hb => hp x A c W hx (hb.mono hBw)) (Kd.N_reads' hS).2.2 (Kd.N_reads' hS).2.1
  unfold idxOf at hcon
  rcases idxFrom_range p l 0 with ⟨h1, h2⟩ | ⟨i0, hi0, h1, h2, h3⟩
  · rw [h1] at hcon
    have he : (l.filter fun x => !p x) = l := List.filter_eq_self.2 fun x hx => by
      obtain ⟨j, hj, rfl⟩ := List.getElem_of_mem hx
      rw [h2 j hj]; rfl
    have HE := Aside0.mk he
    clear hS hp h2 he h1
    go_enter Try.func133, Try.ntmps133
    go_wp2_with (go_at_call 149; refine hcon.mono ?_; rintro e w' ⟨rfl, hb⟩; have HB := Aside0.mk hb; clear hb)
    go_ret
    exact .inl ⟨rfl, HE.out, HB.out⟩
  · rw [h1, Nat.zero_add] at hcon
    obtain ⟨g, rfl, hgB⟩ : ∃ g, A = some ⟨g, 0, none⟩ ∧ B ≤ g := by
      obtain ⟨g, _, e1, hgB, _⟩ := Kd.N_form hS (by omega)
      injection e1 with e1 e2 e3
      exact ⟨g, e1, hgB⟩
    obtain ⟨_, us, hraw⟩ := RawN.of_N hS
    obtain ⟨cur0, hh, hsz, htk⟩ := hraw.top
    have hlen := hraw.len
    have hcapl := hraw.le
    have hmx := hraw.max
    have hsel0 := selV_all p us l hlen i0 (by omega) (fun j hj hji => h3 j hj hji)
    have hsel1 : selV p us l (i0 + 1) = us.take i0 := by rw [selV_succ p us l i0 hi0 (by omega), if_pos h2, hsel0, List.append_nil]
    have hsh0 : ∀ W, Below w.heap.size w W → Shift w W B g cap cur0 (selV p us l (i0 + 1)) := fun W hb => ⟨Kept.of_below hb _, cur0, blk_below hh hb, hsz, by
      rw [hsel1, ← htk, List.take_take, List.length_take, Nat.min_eq_left (by omega)]
      have : i0 ≤ cur0.toList.length := by have := Array.length_toList (xs := cur0); omega
      rw [Nat.min_eq_left this, List.take_append_drop]⟩
    have hl0 : (selV p us l (i0 + 1)).length = i0 := by rw [hsel1, List.length_take]; omega
    have HRAW := Aside0.mk hraw
    have HH0 := Aside0.mk hh
    have HSH0 := Aside0.mk hsh0
    have HP := Aside0.mk hp
    have HTK := Aside0.mk htk
    have HSZ := Aside0.mk hsz
    have HG := Aside0.mk hgB
    have HL0 := Aside0.mk hl0
    clear hS hp hraw hh htk hsh0 hsel0 hsel1 h3 h1 h2 hsz hgB hl0
    go_enter Try.func133, Try.ntmps133
    have hne : ((i0 : Int) == -1) = false := by rw [beq_eq_false_iff_ne]; omega
    go_wp2_with (go_at_call 149; refine hcon.mono ?_; rintro e w1 ⟨rfl, hb⟩; have HB := Aside0.mk (hb.mono hBw); have HSH := Aside0.mk (HSH0.out _ hb); clear hb)
    go_loopg [5, 6, 7] l.length (fun gg s5 s6 s7 wr => ∃ j : Nat, j ≤ l.length ∧ l.length - j ≤ gg ∧ s6 = .int .i64 j ∧ s5 = .int .i64 ((selV p us l j).length : Nat) ∧ (selV p us l j).length < l.length ∧ (selV p us l j).length < j ∧ Aside0 (Below B w wr) ∧ Aside0 (Shift w wr B g cap cur0 (selV p us l j)))
    case atStart => exact ⟨i0 + 1, by omega, by omega, by go_num, by rw [HL0.out], by rw [HL0.out]; omega, by rw [HL0.out]; omega, HB, HSH⟩
    case round =>
      clear HB HSH HSH0 HL0 hcon hne
      obtain ⟨j, hj, hg, rfl, rfl, hsl, hsj, HB, HSH⟩ := hrel
      by_cases hlt : j < l.length
      · have hz : (j : Int) < (l.length : Int) := by omega
        have hju : j < us.length := by omega
        have hsc := selV_succ p us l j hlt hju
        have hux : us[j]? = some us[j] := List.getElem?_eq_getElem hju
        have hlx : l[j]? = some l[j] := List.getElem?_eq_getElem hlt
        have hcu := cur_get HTK.out hux
        have hR := HRAW.out.kept HSH.out.kept j _ _ hlx hux
        have hmem : l[j] ∈ l := List.getElem_mem hlt
        obtain ⟨Ar, cr, hus, hcr, hFr⟩ := Kd.FK_slice_open hR
        replace hus : us[j] = .slice Ar l[j].length cr := by simpa using hus
        have hC := Kd.F_now hFr
        rw [hus] at hcu hsc
        have hx := HSH.out.cell j _ (by omega) hcu
        have hcall := HP.out l[j] Ar cr wr hmem HB.out hC hcr
        generalize hy : l[j] = y at hx hcall hsc hcu
        obtain ⟨sv, hsv⟩ : ∃ s, s = selV p us l j := ⟨_, rfl⟩
        rw [← hsv] at hsl hsj HSH hsc ⊢
        have HSV := Aside0.mk hsv
        clear hR hC hy hsv hus hux hlx hmem hcr hFr
        cases hq : p y with
        | true =>
          rw [hq] at hcall
          rw [hq, if_pos rfl, List.append_nil] at hsc
          have HSC := Aside0.mk hsc
          clear hq hsc
          go_wp2_with (go_at_fn gf; refine (hcall).mono ?_; rintro e w1 ⟨rfl, hb⟩; have n0_ := Aside0.mk (below_then HB.out (Nat.le_trans hBw HB.out.size) hb); have n1_ := Aside0.mk (HSH.out.below hb); clear HB HSH hb; have HB := n0_; have HSH := n1_; clear n0_ n1_)
          go_roundg (l.length - (j + 1))
          case measure => omega
          case rel => exact ⟨j + 1, by omega, by omega, by go_num, by rw [HSC.out], by rw [HSC.out]; exact hsl, by rw [HSC.out]; omega, HB, ⟨by rw [HSC.out]; exact HSH.out⟩⟩
        | false =>
          rw [hq] at hcall
          rw [hq, if_neg (by simp)] at hsc
          have HSC := Aside0.mk hsc
          have hx2 : ∀ W, Shift w W B g cap cur0 sv → ∃ u, W.cell? ⟨g, sv.length, none⟩ = some u := fun W h => Option.isSome_iff_exists.1 (h.there sv.length (by omega))
          clear hq hsc
          obtain ⟨n5, hn5⟩ : ∃ n, n = sv.length := ⟨_, rfl⟩
          rw [← hn5] at hsl hsj hx2 ⊢
          have HN5 := Aside0.mk hn5
          clear hn5
          go_wp2_with (go_at_fn gf; refine (hcall).mono ?_; rintro e w1 ⟨rfl, hb⟩; have n0_ := Aside0.mk (below_then HB.out (Nat.le_trans hBw HB.out.size) hb); have n1_ := Aside0.mk (HSH.out.below hb); clear HB HSH hb; have HB := n0_; have HSH := n1_; clear n0_ n1_; obtain ⟨u0, hu0⟩ := hx2 _ HSH.out; have hfz := HSH.out.free n5)
          have HSH2 := Aside0.mk (show Shift w _ B g cap cur0 (selV p us l (j + 1)) by rw [HSC.out]; have := HSH.out.put (Value.slice Ar y.length cr) (by rw [← HN5.out]; omega) HSZ.out; rw [← HN5.out] at this; exact this)
          have HB2 := Aside0.mk (HB.out.setCell (p := ⟨g, n5, none⟩) HG.out (.slice Ar y.length cr))
          go_roundg (l.length - (j + 1))
          case measure => omega
          case rel => exact ⟨j + 1, by omega, by omega, by go_num, by rw [HSC.out, List.length_append, ← HN5.out]; go_num, by rw [HSC.out, List.length_append, ← HN5.out]; simp; omega, by rw [HSC.out, List.length_append, ← HN5.out]; simp; omega, HB2, HSH2⟩
      · have hz : ¬ (j : Int) < (l.length : Int) := by omega
        obtain rfl : j = l.length := by omega
        have hcl := Go.Lib.run_clear_slice (P := Try.prog) wr 36 22 0 (.slice none 0 0) Try.underlying36 (fun _ => rfl) rfl rfl g (selV p us l l.length).length (l.length - (selV p us l l.length).length) (cap - (selV p us l l.length).length) (by omega) (fun k hk => HSH.out.there _ (by omega)) (fun k hk => HSH.out.free _)
        obtain ⟨HK, hcr⟩ := HSH.out.clear (n := l.length) (by omega) hcapl (.slice none 0 0)
        have HKK := Aside0.mk HK
        have HCR := Aside0.mk hcr
        have HLE := Aside0.mk (show (l.filter fun x => !p x).length = (selV p us l l.length).length by rw [← selZ_rows p us l hlen, List.length_map]; simp [selV])
        have HB2 := Aside0.mk (below_clear HB.out HG.out (selV p us l l.length).length (List.replicate (l.length - (selV p us l l.length).length) (Value.slice none 0 0)))
        obtain ⟨n5, hn5⟩ : ∃ n, n = (selV p us l l.length).length := ⟨_, rfl⟩
        have HN5 := Aside0.mk hn5
        rw [← hn5] at hsl hsj hcl HLE HB2 ⊢
        clear hn5 HK hcr HSH HB
        go_wp2
        go_ret
        refine .inr ⟨g, us, rfl, hlen, ⟨cur0, HH0.out, HTK.out⟩, by rw [HLE.out]; rfl, ?_, ?_, ?_⟩
        · rw [HN5.out]; exact HKK.out
        · exact HB2.out
        · rw [HN5.out]; exact HCR.out
end Go.Proofs.Ytdcdkckpmkfjdaa

namespace Go.Proofs.Ytdcdkckpmkfjdaa
open Go.RowKit Go.Proofs.Ytdcdkckpmkfjdaa.P Go.Proofs.Ytdcdkckpmkfjdaa.L Go.Proofs.YtdcdkckpmkfjdaaW.PrintWords Go.Proofs.YtdcdkckpmkfjdaaW.PrintLast Go.Proofs.YtdcdkckpmkfjdaaW.PrintMore
set_option linter.unusedVariables false
set_option linter.unusedSimpArgs false

/-- The cells of a row that is read. -/
theorem C_cells {W : World} {A : Option Addr} {l : List (List Int)} (h : Kd.C (Kd.slice 3 (Kd.int .i64)) W A l.length l) : ∃ us : List Value, us.length = l.length ∧ Kd.C (Kd.raw 1) W A us.length (us.map fun u => [u]) ∧ (∀ u ∈ us, u.oneCell' = true) ∧ ∀ ad, A = some ad → ∀ j u, us[j]? = some u → W.cell? (ad.add j) = some u := by
  rcases Nat.eq_zero_or_pos l.length with h0 | h0
  · exact ⟨[], by simp [h0], ⟨rfl, by simp, fun h => absurd h (Nat.lt_irrefl 0)⟩, by simp, by simp⟩
  · obtain ⟨hl, hm, hn⟩ := h
    obtain ⟨ad, rfl, hc⟩ := hn h0
    have hx : ∀ j, j < l.length → ∃ u : Value, u.oneCell' = true ∧ W.cell? (ad.add j) = some u := fun j hj => by
      obtain ⟨c, hcs, hK, hcell⟩ := hc j l[j] (List.getElem?_eq_getElem hj)
      have hcl : c.length = 1 := hcs
      obtain ⟨u, rfl⟩ := List.length_eq_one_iff.1 hcl
      have := hcell 0 u rfl
      have hsz : (Kd.slice 3 (Kd.int .i64)).sz = 1 := rfl
      rw [hsz, Nat.mul_one, Nat.add_zero] at this
      exact ⟨u, (Kd.slice 3 (Kd.int .i64)).K_one hK u (List.mem_singleton.2 rfl), this⟩
    refine ⟨(List.range l.length).map fun j => (W.cell? (ad.add j)).getD (.bool false), by simp, ?_, ?_, ?_⟩
    · refine ⟨by simp, by simpa using hm, fun _ => ⟨ad, rfl, fun j p hj => ?_⟩⟩
      rw [List.getElem?_map, List.getElem?_map] at hj
      have hj2 : j < l.length := by
        rcases Nat.lt_or_ge j l.length with h | h
        · exact h
        · rw [List.getElem?_eq_none (by simpa using h)] at hj; simp at hj
      rw [List.getElem?_range hj2] at hj
      obtain ⟨u, h1, h2⟩ := hx j hj2
      simp only [Option.map_some, Option.some.injEq, h2, Option.getD_some] at hj
      subst hj
      refine ⟨[u], rfl, ⟨rfl, rfl, fun q hq => by rw [List.mem_singleton.1 hq]; exact h1⟩, fun i q hq => ?_⟩
      rcases i with _ | i
      · simp only [List.getElem?_cons_zero, Option.some.injEq] at hq
        subst hq
        rw [Nat.add_zero, show (Kd.raw 1).sz = 1 from rfl, Nat.mul_one]; exact h2
      · simp at hq
    · intro u hu
      obtain ⟨j, hj, rfl⟩ := List.mem_map.1 hu
      obtain ⟨u, h1, h2⟩ := hx j (List.mem_range.1 hj)
      rw [h2]; exact h1
    · intro ad' e j u hu
      injection e with e
      subst e
      rw [List.getElem?_map] at hu
      have hj2 : j < l.length := by
        rcases Nat.lt_or_ge j l.length with h | h
        · exact h
        · rw [List.getElem?_eq_none (by simpa using h)] at hu; simp at hu
      rw [List.getElem?_range hj2] at hu
      obtain ⟨u', h1, h2⟩ := hx j hj2
      simp only [Option.map_some, Option.some.injEq, h2, Option.getD_some] at hu
      exact hu ▸ h2
theorem S_emptyU {α : Type} {d : Kd α} {e : Nat} {W : World} {B g : Nat} {ok : Nat → Prop} (h : W.heap[g]? = some (.cells #[] e (0, 0))) (hB : B ≤ g) (hok : ok g) : Kd.S d e W B ok (.slice (some ⟨g, 0, none⟩) 0 0) [] := S_empty h hB hok
/-- What Clone leaves: a new outer block with the same cells. -/
def RetClone (w : World) (us : List Value) (e : Ending) (w' : World) : Prop :=
  (us = [] ∧ e = .returned (.slice none 0 0) ∧ Below w.heap.size w w') ∨
  ∃ (g cap : Nat) (cur : Array Value), w.heap.size ≤ g ∧ us.length ≤ cap ∧ cap ≤ maxLen ∧ e = .returned (.slice (some ⟨g, 0, none⟩) us.length cap) ∧ w'.heap[g]? = some (.cells cur 22 (0, 0)) ∧ cur.size = cap ∧ cur.toList.take us.length = us ∧ Below w.heap.size w w'
theorem info_rowsU : (Try.prog.info? 22).map (fun i => (i.zero, i.size, i.bytes)) = some (some (.slice none 0 0), 1, 24) := by kernel_rfl
theorem reps_singles (us inner : List Value) {R : List Value → List Value → Prop} (hR : ∀ x c, R x c → c = x) (h : Reps R 1 (us.map fun u => [u]) inner) : inner = us := by
  obtain ⟨hl, hr⟩ := h
  rw [List.length_map, Nat.mul_one] at hl
  apply List.ext_getElem hl
  intro i h1 h2
  have := hR _ _ (hr i [us[i]] (by rw [List.getElem?_map, List.getElem?_eq_getElem h2]; rfl))
  rw [Nat.mul_one, List.drop_eq_getElem_cons h1, List.take_succ_cons, List.take_zero] at this
  simpa using this
set_option maxHeartbeats 2000000 in
theorem slices_Clone_rows.calls (A0 : Option Addr) (c0 : Nat) (l0 : List (List Int)) (us : List Value) (w : World) (hul : us.length = l0.length) (hus : Kd.C (Kd.raw 1) w A0 us.length (us.map fun u => [u])) (hlim : l0.length ≤ 1000000) :
    Calls Try.prog 134 #[.slice A0 l0.length c0] w (RetClone w us) := by
  rw [← hul] at hlim ⊢
  have HU := Aside0.mk hus
  have HLM := Aside0.mk (show ((([] : List (List Value)).length + us.length) * 24 ≤ 140737488355328) by simp; omega)
  have hnil := fun (W : World) (n c n' c' : Nat) => Lib.run_eql_slice_nil (P := Try.prog) W 36 22 A0 n c n' c' Try.underlying36
  cases A0 with
  | none =>
    have hl : us = [] := by
      rcases Nat.eq_zero_or_pos us.length with h | h
      · exact List.eq_nil_of_length_eq_zero h
      · obtain ⟨ad, e, _⟩ := HU.out.2.2 h
        cases e
    subst hl
    clear hus
    go_enter Try.func134, Try.ntmps134
    go_wp2
    go_ret
    exact .inl ⟨rfl, rfl, Below.refl _ _⟩
  | some a =>
    have HB := Aside0.mk (below_alloc (Below.refl w.heap.size w) (.cells #[] 22))
    have HO := Aside0.mk (show (Kd.raw 1).R 22 (w.alloc (.cells #[] 22)) w.heap.size (fun _ => True) (.slice (some ⟨w.heap.size, 0, none⟩) 0 0) [] from Kd.S_R (S_emptyU (blk_new w _) (Nat.le_refl _) trivial))
    clear hus
    go_enter Try.func134, Try.ntmps134
    go_wp2_with (((with_reducible refine gate_builtin (b := .append) (xs := #[.tmp 5, .tmp 6]) rfl ?_); at_builtin; refine Kd.R_append_rows (Kd.raw 1) (w0 := w) w.heap.size rfl (.tmp 5) (.tmp 6) 36 22 (.slice none 0 0) 24 rfl Try.underlying36 info_rowsU rfl (by decide) (by omega) (.slice (some ⟨w.heap.size, 0, none⟩) 0 0) [] (us.map fun u => [u]) _ _ _ (fun _ => True) (fun _ => False) rfl rfl HO.out (Kd.C_alloc HU.out _) (fun _ _ h => h) (fun _ h => h.elim) (fun _ _ => trivial) HB.out (below_size HB.out) HLM.out ?_; intro v105 w5 ho hb hg hat; have HO2 := Aside0.mk ho; have HB2 := Aside0.mk hb; clear ho hb hg hat))
    go_ret
    have hR := HO2.out
    rw [List.nil_append] at hR
    obtain ⟨_, inner, ho, hr⟩ := hR
    obtain ⟨hlen, hc⟩ := ho
    have hsz1 : (Kd.raw 1).sz = 1 := rfl
    have hin : inner = us := reps_singles us inner (fun x c h => h.1) hr
    subst hin
    rw [List.length_map] at hc
    rcases hc with ⟨rfl, h0⟩ | ⟨g, cap, cur, rfl, hb, hh, hle, hmx, hsz, htk⟩
    · exact .inl ⟨List.eq_nil_of_length_eq_zero h0, rfl, HB2.out⟩
    · rw [hsz1, Nat.mul_one] at hsz htk
      exact .inr ⟨g, cap, cur, hb, hle, hmx, rfl, hh, hsz, htk, HB2.out⟩
/-- The closure of below. -/
theorem below_1.calls (a x : List Int) (hx : 0 < x.length) (ha : a.length ≤ 1000000) (b ca cx : Nat) (Aa Ax : Option Addr) (W : World) (hb : W.cell? ⟨b, 0, none⟩ = some (.slice Aa a.length ca)) (hca : a.length ≤ ca) (hA : Kd.C (Kd.int .i64) W Aa a.length a) (hX : Kd.C (Kd.int .i64) W Ax x.length x) (hcx : x.length ≤ cx) :
    Gives Try.prog 135 #[.slice Ax x.length cx, .pointer (some ⟨b, 0, none⟩)] W (.bool (!standsB a x)) := by
  obtain ⟨k, hk⟩ := (impl_stands_ev a x hx ha).rounds
  have hcall := impl_standsBelow.calls k Aa ca a Ax cx x _ W hA hca hX hcx hk
  have HCL := Aside0.mk hcall
  clear hcall hA hX hk
  unfold Gives
  go_enter Try.func135, Try.ntmps135
  go_wp2_with (go_at_call 136; refine HCL.out.mono ?_; rintro e w1 ⟨rfl, hd⟩; have hb1 := hd.below; clear hd)
  go_ret
  exact ⟨rfl, hb1⟩
set_option maxHeartbeats 2000000 in
/-- below, by what its two calls leave. -/
theorem impl_below.walk (A : Option Addr) (c n : Nat) (Ar : Option Addr) (nr cr : Nat) (w : World) (Q1 : Value → World → Prop) (Q2 : Value → World → Prop)
    (h1 : Calls Try.prog 134 #[.slice A n c] (w.alloc (.cells #[.slice Ar nr cr] 22)) fun e w1 => ∃ A1 n1 c1, e = .returned (.slice A1 n1 c1) ∧ Q1 (.slice A1 n1 c1) w1)
    (h2 : ∀ A1 n1 c1 w1, Q1 (.slice A1 n1 c1) w1 → Calls Try.prog 133 #[.slice A1 n1 c1, .func (.func 135) #[] #[.pointer (some ⟨w.heap.size, 0, none⟩)]] w1 fun e w2 => ∃ v2, e = .returned v2 ∧ Q2 v2 w2) :
    Calls Try.prog 97 #[.slice A n c, .slice Ar nr cr] w fun e w2 => ∃ v2, e = .returned v2 ∧ Q2 v2 w2 := by
  have H1 := Aside0.mk h1
  have H2 := Aside0.mk h2
  clear h1 h2
  go_enter Try.func97, Try.ntmps97
  go_wp2_with (first | (go_at_call 134; refine H1.out.mono ?_; rintro e w1 ⟨A1, n1, c1, rfl, hq⟩; have HQ := Aside0.mk hq; clear hq) | (go_at_call 133; refine (H2.out _ _ _ _ HQ.out).mono ?_; rintro e w2 ⟨v2, rfl, hq2⟩; have HQ2 := Aside0.mk hq2; clear hq2))
  go_ret
  exact ⟨_, rfl, HQ2.out⟩
theorem filter_stands (a : List Int) (l : List (List Int)) : (l.filter fun x => !(!standsB a x)) = l.filter fun x => standsB a x := by simp
/-- Rows that are only read come back in a new row. -/
def RetN (w : World) (okL : Nat → Prop) (T : List (List Int)) (v : Value) (w' : World) : Prop := Kd.N (Kd.slice 3 (Kd.int .i64)) 22 w' w.heap.size (fun k => okL k ∨ w.heap.size ≤ k) v T ∧ Below w.heap.size w w'
theorem clone_N {w w1 : World} {okL : Nat → Prop} {A : Option Addr} {l : List (List Int)} {us : List Value} {e : Ending} (hF : Kd.F (Kd.slice 3 (Kd.int .i64)) w okL A l.length l) (hul : us.length = l.length) (hus : ∀ ad, A = some ad → ∀ j u, us[j]? = some u → w.cell? (ad.add j) = some u) (h : RetClone w us e w1) :
    ∃ A1 n1 c1, e = .returned (.slice A1 n1 c1) ∧ n1 = l.length ∧ RetN w okL l (.slice A1 n1 c1) w1 := by
  rcases h with ⟨h0, rfl, hb⟩ | ⟨g, cap, cur, hg, hle, hmx, rfl, hh, hsz, htk, hb⟩
  · subst h0
    have : l = [] := List.eq_nil_of_length_eq_zero hul.symm
    subst this
    exact ⟨_, _, _, rfl, rfl, Kd.N_nil _ _ _ _ _, hb⟩
  · refine ⟨_, _, _, rfl, hul, ?_, hb⟩
    rw [hul]
    refine RawN.N (us := us) ⟨hul, by omega, hmx, hg, .inr hg, ⟨cur, hh, hsz, by rw [← hul]; exact htk⟩, fun j x u hx hu => ?_⟩
    have hj : j < l.length := (List.getElem?_eq_some_iff.1 hx).1
    obtain ⟨ad, c, hA, hcl, hFK, hcell, _⟩ := Kd.F_get hF ([] : List Int) (j : Int) (by omega) (by omega)
    have hcl1 : c.length = 1 := hcl
    obtain ⟨q, rfl⟩ := List.length_eq_one_iff.1 hcl1
    have h1 := hcell 0 q rfl
    rw [Int.toNat_natCast, show (Kd.slice 3 (Kd.int .i64)).sz = 1 from rfl, Nat.mul_one, Nat.add_zero, hus ad hA j u hu] at h1
    obtain rfl := Option.some.inj h1
    rw [Int.toNat_natCast, List.getD_eq_getElem?_getD, hx] at hFK
    exact Kd.FK_mono (Kd.FK_below (Foot.bound hFK) hb) (fun k hk => ⟨.inl hk.1, by have := hk.2; omega⟩)
theorem below_eg : ∀ args w, (callFunc 135 args).run Try.prog w = .ok (.enter 135 args) w := enters_of Try.func135 (by kernel_rfl) rfl
theorem below_del {a : List Int} {l : List (List Int)} {w w0 w1 : World} {Ar A1 : Option Addr} {cr c1 : Nat} {ok : Nat → Prop} (hw0 : w0 = w.alloc (.cells #[.slice Ar a.length cr] 22)) (ha : a.length ≤ 1000000) (hl : l.length ≤ 1000000) (hpos : ∀ x ∈ l, 0 < x.length) (hca : a.length ≤ cr) (hA : Kd.C (Kd.int .i64) w Ar a.length a)
    (hb1 : Below w0.heap.size w0 w1) (hN : Kd.N (Kd.slice 3 (Kd.int .i64)) 22 w1 w0.heap.size ok (.slice A1 l.length c1) l) :
    Calls Try.prog 133 #[.slice A1 l.length c1, .func (.func 135) #[] #[.pointer (some ⟨w.heap.size, 0, none⟩)]] w1 (RetRaw w1 w0.heap.size A1 c1 (fun x => !standsB a x) l) := by
  refine slices_DeleteFunc_raw.calls _ _ (fun x => !standsB a x) w0.heap.size ok A1 c1 l w1 hb1.size hl below_eg (fun x Ax cx W hx hbW hCx hcx => ?_) hN
  have hbw : Below w0.heap.size w0 W := hb1.trans hbW
  have hw : Below w.heap.size w W := by
    have h1 : Below w.heap.size w w0 := by rw [hw0]; exact below_alloc (Below.refl _ _) _
    exact h1.trans (hbw.mono h1.size)
  have hc0 : W.cell? ⟨w.heap.size, 0, none⟩ = some (.slice Ar a.length cr) := by
    refine pw_cell_below hbw ?_
    rw [hw0]
    exact blk_cell (blk_new w _) 0
  exact below_1.calls a x (hpos x hx) ha _ _ _ _ _ W hc0 hca (Kd.C_below hA hw) hCx hcx
/-- below, over rows that are only read. -/
theorem impl_below.callsN {a : List Int} {l : List (List Int)} {w : World} {A Ar : Option Addr} {c cr : Nat} {okL : Nat → Prop} (ha : a.length ≤ 1000000) (hl : l.length ≤ 1000000) (hpos : ∀ x ∈ l, 0 < x.length) (hca : a.length ≤ cr) (hA : Kd.C (Kd.int .i64) w Ar a.length a) (hF : Kd.F (Kd.slice 3 (Kd.int .i64)) w okL A l.length l) :
    Calls Try.prog 97 #[.slice A l.length c, .slice Ar a.length cr] w fun e w2 => ∃ v2, e = .returned v2 ∧ RetN w okL (l.filter fun x => standsB a x) v2 w2 := by
  obtain ⟨w0, hw0⟩ : ∃ w0, w0 = w.alloc (.cells #[.slice Ar a.length cr] 22) := ⟨_, rfl⟩
  have hbw : Below w.heap.size w w0 := by rw [hw0]; exact below_alloc (Below.refl _ _) _
  have hF0 : Kd.F (Kd.slice 3 (Kd.int .i64)) w0 (fun k => okL k ∧ k < w.heap.size) A l.length l := by rw [hw0]; exact Kd.F_alloc (Kd.F_bound hF) _
  obtain ⟨us, hul, hraw, _, hus⟩ := C_cells (Kd.F_now hF0)
  refine impl_below.walk A c l.length Ar a.length cr w (fun v1 w1 => ∃ A1 c1, v1 = .slice A1 l.length c1 ∧ RetN w0 (fun k => okL k ∧ k < w.heap.size) l v1 w1) _ ?_ ?_
  · rw [← hw0]
    refine (slices_Clone_rows.calls A c l us w0 hul hraw hl).mono fun e w1 h => ?_
    obtain ⟨A1, n1, c1, rfl, rfl, h⟩ := clone_N hF0 hul hus h
    exact ⟨A1, _, c1, rfl, A1, c1, rfl, h⟩
  · rintro A1 n1 c1 w1 ⟨A2, c2, e1, hN, hb1⟩
    injection e1 with e1 e2 e3
    subst e1 e2 e3
    refine (below_del hw0 ha hl hpos hca hA hb1 hN).mono fun e w2 h => ?_
    have hok : ∀ k, ((okL k ∧ k < w.heap.size) ∨ w0.heap.size ≤ k) → (okL k ∨ w.heap.size ≤ k) := fun k hk => hk.elim (fun h => .inl h.1) (fun h => .inr (Nat.le_trans hbw.size h))
    rcases h with ⟨rfl, he, hb⟩ | ⟨g, us2, rfl, hul2, ⟨cur0, hh0, ht0⟩, rfl, hk, hb, htop⟩
    · rw [filter_stands] at he
      rw [he]
      exact ⟨_, rfl, Kd.N_lower (Kd.N_mono (Kd.N_below hN hb) hok) hbw.size, hbw.trans ((hb1.trans (hb.mono hb1.size)).mono hbw.size)⟩
    · obtain ⟨_, us3, hR⟩ := RawN.of_N hN
      obtain ⟨cur1, hh1, _, ht1⟩ := hR.top
      rw [hh0] at hh1
      injection Option.some.inj hh1 with hcc
      subst hcc
      rw [ht0] at ht1
      subst ht1
      have := RawN.N (hR.sel hk _ htop)
      rw [filter_stands] at this ⊢
      exact ⟨_, rfl, Kd.N_lower (Kd.N_mono this hok) hbw.size, hbw.trans ((hb1.trans hb).mono hbw.size)⟩
end Go.Proofs.Ytdcdkckpmkfjdaa

namespace Go.Proofs.Ytdcdkckpmkfjdaa
open Go.RowKit Go.Proofs.Ytdcdkckpmkfjdaa.P Go.Proofs.Ytdcdkckpmkfjdaa.L Go.Proofs.YtdcdkckpmkfjdaaW.PrintWords Go.Proofs.YtdcdkckpmkfjdaaW.PrintLast Go.Proofs.YtdcdkckpmkfjdaaW.PrintMore
set_option linter.unusedVariables false
set_option linter.unusedSimpArgs false

mutual
/-- What goes on rows by each of next. -/
def dsL : Nat → List (List Int) → List (List Int) → List (List Int) → Option (List (List (List Int)))
  | 0, _, _, _ => none
  | k + 1, Lst, rows, next => match next with
    | [] => some []
    | row :: rest => (dsE k Lst (rows ++ [row]) (Lst.filter fun x => standsB row x)).bind fun a => (dsL k Lst rows rest).bind fun b => some (a ++ b)
/-- Rows, and all that goes on them. -/
def dsE : Nat → List (List Int) → List (List Int) → List (List Int) → Option (List (List (List Int)))
  | 0, _, _, _ => none
  | k + 1, Lst, rows, next => (dsL k Lst rows next).bind fun b => some (rows :: b)
end
/-- The variables of the closure. -/
structure DsEnv (W : World) (bo ba bl : Nat) (v vl : Value) : Prop where
  out : W.heap[bo]? = some (.cells #[v] 43 (0, 0))
  add : W.heap[ba]? = some (.cells #[.func (.func 124) #[] #[.pointer (some ⟨bo, 0, none⟩), .pointer (some ⟨ba, 0, none⟩), .pointer (some ⟨bl, 0, none⟩)]] 78 (0, 0))
  list : W.heap[bl]? = some (.cells #[vl] 36 (0, 0))
  ne : bo ≠ ba ∧ bo ≠ bl ∧ ba ≠ bl
theorem DsEnv.touch {W W' : World} {bo ba bl : Nat} {v vl : Value} {S : Nat → Prop} (h : DsEnv W bo ba bl v vl) (ht : Touch W W' S) (h0 : ¬ S bo) (h1 : ¬ S ba) (h2 : ¬ S bl) : DsEnv W' bo ba bl v vl :=
  ⟨ht.blk h.out h0, ht.blk h.add h1, ht.blk h.list h2, h.ne⟩
theorem DsEnv.below {W W' : World} {bo ba bl : Nat} {v vl : Value} (h : DsEnv W bo ba bl v vl) (hb : Below W.heap.size W W') : DsEnv W' bo ba bl v vl := h.touch (Touch.of_below hb (fun _ => False)) id id id
theorem DsEnv.put {W : World} {bo ba bl : Nat} {v vl : Value} (h : DsEnv W bo ba bl v vl) (v' : Value) : DsEnv (W.setCell ⟨bo, 0, none⟩ v') bo ba bl v' vl :=
  ⟨blk_put h.out 0 v' rfl, blk_far h.add (by have := h.ne; exact fun e => this.1 e.symm) _, blk_far h.list (by have := h.ne; exact fun e => this.2.1 e.symm) _, h.ne⟩
/-- Blocks that stay as they are. -/
def frD (W : World) (bo : Nat) (v : Value) : Nat → Prop := fun k => (k ≠ bo ∧ some k ≠ v.ownBlock) ∧ k < W.heap.size
/-- What is written. -/
def tD (bo : Nat) (v : Value) : Nat → Prop := fun k => k = bo ∨ some k = v.ownBlock
theorem frD_step {W W' : World} {bo : Nat} {v v' : Value} (ht : Touch W W' (tD bo v)) (hv : ∀ k, some k = v'.ownBlock → some k = v.ownBlock ∨ W.heap.size ≤ k) : ∀ k, frD W bo v k → frD W' bo v' k :=
  fun k hk => ⟨⟨hk.1.1, fun e => (hv k e).elim hk.1.2 (fun h => by have := hk.2; omega)⟩, Nat.lt_of_lt_of_le hk.2 ht.size⟩
theorem frD_F {α : Type} {d : Kd α} {W W' : World} {bo n : Nat} {v v' : Value} {A : Option Addr} {xs : List α} (hF : Kd.F d W (frD W bo v) A n xs) (ht : Touch W W' (tD bo v)) (hv : ∀ k, some k = v'.ownBlock → some k = v.ownBlock ∨ W.heap.size ≤ k) : Kd.F d W' (frD W' bo v') A n xs :=
  Kd.F_mono (ht.F hF (fun k hk h => h.elim hk.1.1 hk.1.2)) (frD_step ht hv)
theorem frD_below {α : Type} {d : Kd α} {W W' : World} {bo n : Nat} {v : Value} {A : Option Addr} {xs : List α} (hF : Kd.F d W (frD W bo v) A n xs) (hb : Below W.heap.size W W') : Kd.F d W' (frD W' bo v) A n xs :=
  frD_F hF (Touch.of_below hb _) (fun k h => .inl h)
def okD (bo ba bl : Nat) : Nat → Prop := fun k => k ≠ bo ∧ k ≠ ba ∧ k ≠ bl
/-- What the closure leaves. -/
def DsPost (W : World) (B bo ba bl : Nat) (v vl : Value) (L : List (List (List Int))) (e : Ending) (W' : World) : Prop :=
  e = .returned (.tuple #[]) ∧ ∃ v', DsEnv W' bo ba bl v' vl ∧ Kd.S tabK 36 W' B (okD bo ba bl) v' L ∧ Touch W W' (tD bo v) ∧ ∀ k, some k = v'.ownBlock → some k = v.ownBlock ∨ W.heap.size ≤ k
theorem info_tabsD : (Try.prog.info? 36).map (fun i => (i.zero, i.size, i.bytes)) = some (some (.slice none 0 0), 1, 24) := by kernel_rfl
theorem copy_ev_l0 (l : List (List Int)) (hf : fewRows l) : ∀ (d i : Nat), i + d = l.length → Ev (fun k => impl_copyTable.l0 k (l.take i) l l.length i) l := by
  have hl := hf.1
  intro d
  induction d with
  | zero =>
    intro i hi
    refine Ev.step (fun k => by rw [impl_copyTable.l0]) ?_
    rw [List.take_of_length_le (by omega)]
    exact Ev.ite_neg (by omega) (Ev.now _)
  | succ d ih =>
    intro i hi
    refine Ev.step (fun k => by rw [impl_copyTable.l0]) ?_
    have hlt : i < l.length := by omega
    have hnext := ih (i + 1) (by omega)
    rw [List.take_succ_eq_append_getElem hlt] at hnext
    have hr := hf.2 _ (List.getElem_mem hlt)
    rw [rd1_at l i hlt, wrapS i (by omega)]
    refine Ev.ite_pos (by omega) (Ev.ite_pos (by omega) (Ev.ite_pos (by omega) (Ev.some_bind (a := l[i]) (by unfold slices_Clone_int_int_132.f slices_Clone_int_int.f; rw [if_pos (by omega)]) (Ev.ite_pos ?_ hnext))))
    rw [List.length_take]; omega
theorem copy_ev (l : List (List Int)) (hf : fewRows l) : Ev (fun k => impl_copyTable.f k l) l := by
  have := copy_ev_l0 l hf l.length 0 (by omega)
  simpa [impl_copyTable.f] using this

/-- A row appended to a cut of rows that are only read. -/
theorem app1_F {w w1 w9 : World} {ok : Nat → Prop} {A Ar : Option Addr} {cr : Nat} {rows : List (List Int)} {row : List Int} {us : List Value} {v9 : Value} (hF : Kd.F (Kd.slice 3 (Kd.int .i64)) w ok A rows.length rows) (hul : us.length = rows.length) (hus : ∀ ad, A = some ad → ∀ j u, us[j]? = some u → w.cell? (ad.add j) = some u)
    (hrow : Kd.F (Kd.int .i64) w ok Ar row.length row) (hcr : row.length ≤ cr) (hb : Below w.heap.size w w1) (how : w9.ownsRow w1.heap.size 22 1 v9 (rows.length + 1) (us ++ [.slice Ar row.length cr])) (hg : w1.grownBy w9 none) :
    ∃ A9 c9, v9 = .slice A9 (rows ++ [row]).length c9 ∧ (rows ++ [row]).length ≤ c9 ∧ Kd.F (Kd.slice 3 (Kd.int .i64)) w9 (fun k => ok k ∨ w.heap.size ≤ k) A9 (rows ++ [row]).length (rows ++ [row]) ∧ Below w1.heap.size w1 w9 := by
  have hb9 : Below w1.heap.size w1 w9 := ⟨hg.os, hg.tape, hg.output, hg.size, fun k hk => hg.block k hk (by simp)⟩
  have hbw : Below w.heap.size w w9 := hb.trans (hb9.mono hb.size)
  have hlr : (rows ++ [row]).length = rows.length + 1 := by simp
  obtain ⟨hl, hc⟩ := how
  rcases hc with ⟨_, h0⟩ | ⟨g, cap, cur, rfl, hgB, hh, hle, hmx, hsz, htk⟩
  · omega
  · rw [Nat.mul_one] at hsz htk
    have hR : RawN w9 w1.heap.size (fun k => ok k ∨ w.heap.size ≤ k) g cap (us ++ [.slice Ar row.length cr]) (rows ++ [row]) := by
      refine ⟨by simp [hul], by omega, hmx, hgB, .inr (Nat.le_trans hb.size hgB), ⟨cur, hh, hsz, by rw [hlr]; exact htk⟩, fun j x u hx hu => ?_⟩
      rcases Nat.lt_or_ge j rows.length with hj | hj
      · rw [List.getElem?_append_left hj] at hx
        rw [List.getElem?_append_left (by omega)] at hu
        obtain ⟨ad, c, hA, hcl, hFK, hcell, _⟩ := Kd.F_get hF ([] : List Int) (j : Int) (by omega) (by omega)
        have hcl1 : c.length = 1 := hcl
        obtain ⟨q, rfl⟩ := List.length_eq_one_iff.1 hcl1
        have h1 := hcell 0 q rfl
        rw [Int.toNat_natCast, show (Kd.slice 3 (Kd.int .i64)).sz = 1 from rfl, Nat.mul_one, Nat.add_zero, hus ad hA j u hu] at h1
        obtain rfl := Option.some.inj h1
        rw [Int.toNat_natCast, List.getD_eq_getElem?_getD, hx] at hFK
        exact Kd.FK_mono (Kd.FK_below (Foot.bound hFK) hbw) (fun k hk => ⟨.inl hk.1, by have := hk.2; have := hb.size; omega⟩)
      · have hje : j = rows.length := by
          have := (List.getElem?_eq_some_iff.1 hx).1
          rw [hlr] at this; omega
        subst hje
        rw [List.getElem?_append_right (Nat.le_refl _), Nat.sub_self] at hx
        rw [List.getElem?_append_right (by omega), hul, Nat.sub_self] at hu
        simp only [List.getElem?_cons_zero, Option.some.injEq] at hx hu
        subst hx hu
        exact Kd.FK_mono (Kd.FK_below (Foot.bound (Kd.FK_slice_mk hcr hrow)) hbw) (fun k hk => ⟨.inl hk.1, by have := hk.2; have := hb.size; omega⟩)
    have hN := hR.N
    exact ⟨_, cap, by rw [hlr], by omega, Kd.N_F hN, hb9⟩
theorem below_drew' {W w1 : World} (h : Below W.drew.heap.size W.drew w1) : Below W.heap.size W w1 := ⟨h.os, h.tape, h.output, h.size, h.block⟩
/-- A table has been appended to what the variable out holds. -/
theorem ds_app {W w1 w4 : World} {B bo ba bl : Nat} {v v4 vl : Value} {L L1 : List (List (List Int))} (henv : DsEnv W bo ba bl v vl) (hS : Kd.S tabK 36 W B (okD bo ba bl) v L) (hb1 : Below W.heap.size W w1)
    (hg : w1.grownBy w4 v.ownBlock) (ho : Kd.S tabK 36 w4 B (okD bo ba bl) v4 L1) (hat : v4.ownBlock = v.ownBlock ∨ ∃ b, v4.ownBlock = some b ∧ w1.heap.size ≤ b) :
    w4.cell? ⟨bo, 0, none⟩ = some v ∧ w4.frozen? ⟨bo, 0, none⟩ = false ∧ DsEnv (w4.setCell ⟨bo, 0, none⟩ v4) bo ba bl v4 vl ∧ Kd.S tabK 36 (w4.setCell ⟨bo, 0, none⟩ v4) B (okD bo ba bl) v4 L1 ∧ Touch W (w4.setCell ⟨bo, 0, none⟩ v4) (tD bo v) ∧ (∀ k, some k = v4.ownBlock → some k = v.ownBlock ∨ W.heap.size ≤ k) := by
  have hv : ∀ k, some k = v.ownBlock → okD bo ba bl k := fun k e => (Kd.S_R hS).1 k e.symm
  have ht : Touch W w4 (fun k => some k = v.ownBlock) := (Touch.of_below hb1 _).trans ⟨hg.os, hg.tape, hg.output, hg.size, fun i hi hn => hg.block i hi hn⟩ (fun k hk => .inl hk)
  have h1 := henv.touch ht (fun e => (hv _ e).1 rfl) (fun e => (hv _ e).2.1 rfl) (fun e => (hv _ e).2.2 rfl)
  refine ⟨blk_cell h1.out 0, blk_frozen h1.out 0, h1.put v4, Kd.S_far ho (fun k hk => hk.1) v4, (ht.mono (fun k hk => .inr hk)).set ⟨bo, 0, none⟩ (.inl (.inl rfl)) v4, fun k hk => ?_⟩
  rcases hat with e | ⟨b, e, hle⟩
  · exact .inl (hk.trans e)
  · rw [e] at hk; injection hk with hk; exact .inr (by have := hb1.size; omega)
/-- The rows below a row, of a list that is only read. -/
theorem ds_below {wr W : World} {okL : Nat → Prop} {a : List Int} {l : List (List Int)} {Al Ar : Option Addr} {cl cr : Nat} (ha : a.length ≤ 1000000) (hll : l.length ≤ 1000000) (hlx : ∀ x ∈ l, 0 < x.length) (hcr : a.length ≤ cr) (hX : Kd.F (Kd.int .i64) wr okL Ar a.length a) (hF : Kd.F (Kd.slice 3 (Kd.int .i64)) wr okL Al l.length l) (hbY : Below wr.heap.size wr W) :
    Calls Try.prog 97 #[.slice Al l.length cl, .slice Ar a.length cr] W (fun e w2 => ∃ A2 c2, e = .returned (.slice A2 (l.filter fun x => standsB a x).length c2) ∧ (l.filter fun x => standsB a x).length ≤ c2 ∧ Kd.F (Kd.slice 3 (Kd.int .i64)) w2 (fun k => okL k ∨ wr.heap.size ≤ k) A2 (l.filter fun x => standsB a x).length (l.filter fun x => standsB a x) ∧ Below W.heap.size W w2) := by
  refine (impl_below.callsN (a := a) (l := l) (okL := okL) ha hll hlx hcr (Kd.C_below (Kd.F_now hX) hbY) (Kd.F_below hF hbY)).mono ?_
  rintro e w2 ⟨vb, rfl, hN2, hb2⟩
  obtain ⟨A2, c2, rfl⟩ := Kd.N_slice hN2
  exact ⟨A2, c2, rfl, (Kd.N_reads' hN2).2.1, Kd.F_mono (ok' := fun k => okL k ∨ wr.heap.size ≤ k) (Kd.N_F hN2) (fun k hk => hk.elim .inl (fun h => .inr (Nat.le_trans hbY.size h))), hb2⟩
set_option maxHeartbeats 4000000 in
set_option maxRecDepth 100000 in
theorem descending_1.calls (B : Nat) (w0 : World) (bo ba bl : Nat) (Lst : List (List Int)) (Al : Option Addr) (cl : Nat) (hcl : Lst.length ≤ cl) (hLl : Lst.length ≤ 1000000) (hLs : ∀ x ∈ Lst, 0 < x.length ∧ x.length ≤ 100) (hBo : B ≤ bo) : ∀ (k : Nat) (rows next : List (List Int)) (X L : List (List (List Int))) (A : Option Addr) (c : Nat) (A' : Option Addr) (c' : Nat) (v : Value) (W : World),
    dsE k Lst rows next = some X → rows.length + k ≤ 100000 → (∀ x ∈ rows, 0 < x.length ∧ x.length ≤ 100) → next.length ≤ 1000000 → (∀ x ∈ next, 0 < x.length ∧ x.length ≤ 100) → (L ++ X).length ≤ 1000000 →
    DsEnv W bo ba bl v (.slice Al Lst.length cl) → Below B w0 W → B ≤ W.heap.size → Kd.S tabK 36 W B (okD bo ba bl) v L →
    Kd.F (Kd.slice 3 (Kd.int .i64)) W (frD W bo v) Al Lst.length Lst → Kd.F (Kd.slice 3 (Kd.int .i64)) W (frD W bo v) A rows.length rows → rows.length ≤ c → Kd.F (Kd.slice 3 (Kd.int .i64)) W (frD W bo v) A' next.length next → next.length ≤ c' →
    Calls Try.prog 124 #[.slice A rows.length c, .slice A' next.length c', .pointer (some ⟨bo, 0, none⟩), .pointer (some ⟨ba, 0, none⟩), .pointer (some ⟨bl, 0, none⟩)] W (DsPost W B bo ba bl v (.slice Al Lst.length cl) (L ++ X)) := by
  intro k
  induction k using Nat.strongRecOn with
  | _ k ih =>
  intro rows next X L A c A' c' v W hX hlen hrow hnl hnx hlx henv hb hBW hS hFl hFr hc hFn hc'
  cases k with
  | zero => simp [dsE] at hX
  | succ k =>
  rw [dsE] at hX
  obtain ⟨b, hb1, hb2⟩ := Option.bind_eq_some_iff.1 hX
  obtain rfl := Option.some.inj hb2
  clear hb2 hX
  obtain ⟨XX, hXX⟩ : ∃ XX, XX = L ++ (rows :: b) := ⟨_, rfl⟩
  rw [← hXX] at hlx ⊢
  have eg : ∀ args w, (callFunc 124 args).run Try.prog w = .ok (.enter 124 args) w := enters_of Try.func124 (by kernel_rfl) rfl
  obtain ⟨kc, hkc⟩ := (copy_ev rows ⟨by omega, fun r hr => by have := (hrow r hr).2; omega⟩).rounds
  have HCP := Aside0.mk (fun W1 (h : Kd.C (Kd.slice 3 (Kd.int .i64)) W1 A rows.length rows) => impl_copyTable.calls kc A c rows rows W1 h hc hkc)
  obtain ⟨Av, nv, cv, rfl⟩ := slice3 hS
  have hout : W.cell? ⟨bo, 0, none⟩ = some (.slice Av nv cv) := blk_cell henv.out 0
  have IH := Aside0.mk ih
  have HRW := Aside0.mk hrow
  have HNX := Aside0.mk hnx
  have HXT := Aside0.mk hlx
  have HLEN := Aside0.mk hlen
  have HB := Aside0.mk hb
  have HBO := Aside0.mk hBo
  have HBW := Aside0.mk hBW
  have HENV := Aside0.mk henv
  have HS := Aside0.mk hS
  have HFL := Aside0.mk hFl
  have HFR := Aside0.mk hFr
  have HFN := Aside0.mk hFn
  have HCN := Aside0.mk hc'
  have HCR := Aside0.mk hc
  have HLS := Aside0.mk hLs
  have HM := Aside0.mk hb1
  have HLX := Aside0.mk hXX
  have HLL := Aside0.mk (show (L.length + 1) * 24 ≤ 140737488355328 by have := hlx; rw [hXX, List.length_append] at this; omega)
  have hbsz : bo < W.heap.size ∧ ba < W.heap.size ∧ bl < W.heap.size := ⟨blk_lt henv.out, blk_lt henv.add, blk_lt henv.list⟩
  have hrl : rows.length ≤ 1000000 := by omega
  have HBW2 := Aside0.mk hBW
  clear ih hrow hnx hlx hlen hb hBo hBW henv hS hFl hFr hFn hc hc' hLs hb1 hXX hkc
  go_enter Try.func124, Try.ntmps124
  go_upto_region 1 with (fail)
  go_cut [9] (fun v9 wc => ∃ v2 : Value, Aside0 (DsEnv wc bo ba bl v2 (.slice Al Lst.length cl)) ∧ Aside0 (Kd.S tabK 36 wc B (okD bo ba bl) v2 (L ++ [rows])) ∧ Aside0 (Touch W wc (tD bo (.slice Av nv cv))) ∧ Aside0 (∀ k, some k = v2.ownBlock → some k = (Value.slice Av nv cv).ownBlock ∨ W.heap.size ≤ k) ∧ Aside0 (Below B w0 wc))
  case first =>
    go_region_law (first
      | (refine goes_ Try.func125 (by kernel_rfl) rfl #[.slice A rows.length c] (by rfl) rfl rfl (by (try simp only [List.map_toArray, List.map_cons, List.map_nil]); first | done | rfl) ?_; refine (HCP.out _ (by repeat (first | exact Kd.F_now HFR.out | refine Kd.C_drew ?_))).mono ?_; rintro e w1 ⟨v1, rfl, hS1, hb1⟩; obtain ⟨A1, n1, c1, rfl⟩ := slice3 hS1; have hk1 := pw_cell_below (below_drew' hb1) hout; have hk2 := pw_cell_below (below_alloc (Below.refl w1.heap.size w1) (.cells #[.slice A1 n1 c1] 36)) hk1; have HB1 := Aside0.mk (below_drew' hb1); have HS1 := Aside0.mk hS1; clear hS1; refine ⟨_, rfl, ?_⟩)
      | (refine Kd.S_append_step tabK (w0 := w0) B (by rfl) (.tmp 9) (.tmp 12) 43 36 (.slice none 0 0) 24 (by rfl) Try.underlying43 info_tabsD rfl (by decide) (by omega) (.slice Av nv cv) L rows [.slice A1 n1 c1] (okD bo ba bl) (fun k => W.heap.size ≤ k) (by rfl) (by rfl) ⟨_, rfl, Kd.S_lower (Kd.S_mono (Kd.S_bound HS1.out) (fun k hk => hk.2.1)) HBW.out⟩ ?aP ?aF ?aO ?aB ?aS HLL.out ?_; (case aP => exact fun k hk => ⟨⟨by omega, by omega, by omega⟩, fun e => by have := Kd.S_lt HS.out k e.symm; omega⟩); (case aF => exact fun k hk => by have := HB1.out.size; exact ⟨by omega, by omega, by omega⟩); (case aO => exact Kd.S_mono (Kd.S_old HS.out HB1.out) (fun k hk => ⟨hk.1, by omega⟩)); (case aB => exact HB.out.trans (HB1.out.mono HBW.out)); (case aS => exact Nat.le_trans HBW.out HB1.out.size); intro v4 w4 ho4 hb4 hg4 hat4; obtain ⟨A4, n4, c4, rfl⟩ := slice3 ho4; obtain ⟨hk4, hf4, he4, hs4, ht4, hv4⟩ := ds_app HENV.out HS.out HB1.out hg4 ho4 hat4; have HE4 := Aside0.mk he4; have HS4 := Aside0.mk hs4; have HT4 := Aside0.mk ht4; have HV4 := Aside0.mk hv4; have HB4 := Aside0.mk (hb4.setCell (p := ⟨bo, 0, none⟩) HBO.out (.slice A4 n4 c4)); clear ho4 hb4 hg4 hat4 he4 hs4 ht4 hv4))
    all_goals
      go_wp2
      go_meet
      case rel => exact ⟨_, HE4, HS4, HT4, HV4, HB4⟩
  case rest =>
    clear HB HENV HS HBW hout HCP HLL
    obtain ⟨v2, HE2, HS2, HT2, HV2, HB2⟩ := hcut
    obtain ⟨us, hul, _, _, hus⟩ := C_cells (Kd.F_now HFR.out)
    have HUS := Aside0.mk hus
    have HLN := Aside0.mk (show L ++ [rows] ++ b = XX by rw [HLX.out, List.append_assoc]; rfl)
    have hmk : ∀ (W : World), True := fun _ => trivial
    clear hus hmk HLX
    go_wp2
    go_loopg [16] k (fun kq v16 wr => ∃ (i : Nat) (L2 Y : List (List (List Int))) (v3 : Value), i ≤ next.length ∧ v16 = .int .i64 i ∧ Aside0 (dsL kq Lst rows (next.drop i) = some Y) ∧ Aside0 (kq ≤ k) ∧ Aside0 (L2 ++ Y = XX) ∧ Aside0 (DsEnv wr bo ba bl v3 (.slice Al Lst.length cl)) ∧ Aside0 (Kd.S tabK 36 wr B (okD bo ba bl) v3 L2) ∧ Aside0 (Touch W wr (tD bo (.slice Av nv cv))) ∧ Aside0 (∀ k, some k = v3.ownBlock → some k = (Value.slice Av nv cv).ownBlock ∨ W.heap.size ≤ k) ∧ Aside0 (Below B w0 wr))
    case atStart => exact ⟨0, L ++ [rows], b, v2, Nat.zero_le _, rfl, HM, ⟨Nat.le_refl _⟩, HLN, HE2, HS2, HT2, HV2, HB2⟩
    case round =>
      clear HM HLN HE2 HS2 HT2 HV2 HB2
      obtain ⟨i, L2, Y, v3, hi, rfl, HM, HK, HL2, HENV, HS, HT, HV, HB⟩ := hrel
      cases gk with
      | zero => exact absurd HM.out (by simp [dsL])
      | succ k3 =>
      have H := HM.out
      by_cases hlt : i < next.length
      · have hz : (i : Int) < (next.length : Int) := by omega
        obtain ⟨row, hrw⟩ : ∃ row, row = next[i] := ⟨_, rfl⟩
        rw [List.drop_eq_getElem_cons hlt, ← hrw, dsL] at H
        obtain ⟨a, ha, H⟩ := Option.bind_eq_some_iff.1 H
        obtain ⟨b2, hb2, H⟩ := Option.bind_eq_some_iff.1 H
        obtain rfl := Option.some.inj H
        have hFl := frD_F HFL.out HT.out HV.out
        have hFr := frD_F HFR.out HT.out HV.out
        have hFn := frD_F HFN.out HT.out HV.out
        obtain ⟨ad, cs, hA, hcl1, hFK, hcell, _⟩ := Kd.F_get hFn ([] : List Int) (i : Int) (by omega) (by omega)
        subst hA
        obtain ⟨Ar, cr, rfl, hcr, hFx⟩ := Kd.FK_slice_open hFK
        have hx := hcell 0 _ rfl
        rw [Int.toNat_natCast, show (Kd.slice 3 (Kd.int .i64)).sz = 1 from rfl, Nat.mul_one, Nat.add_zero] at hx
        have hge : next.getD i [] = row := by rw [hrw, List.getD_eq_getElem?_getD, List.getElem?_eq_getElem hlt]; rfl
        rw [Int.toNat_natCast, hge] at hcr hFx
        rw [hge] at hx
        have hrs := HNX.out row (by rw [hrw]; exact List.getElem_mem hlt)
        have HROW := Aside0.mk hrs
        have HX := Aside0.mk hFx
        have HA := Aside0.mk ha
        have HB2 := Aside0.mk hb2
        have HFl := Aside0.mk hFl
        have HFr := Aside0.mk hFr
        have HBC := Aside0.mk (Below.refl wr.heap.size wr)
        have HCRr := Aside0.mk hcr
        have hus2 : ∀ b_, A = some b_ → ∀ j u, us[j]? = some u → wr.cell? (b_.add j) = some u := by
          obtain ⟨us2, hul2, _, _, hus2⟩ := C_cells (Kd.F_now hFr)
          intro b_ hb_ j u hu
          have h1 := HUS.out b_ hb_ j u hu
          subst hb_
          have hj : j < rows.length := by have := (List.getElem?_eq_some_iff.1 hu).1; omega
          obtain ⟨ad1, c1, hA1, hcl1, hFK1, hcell1, hin1⟩ := Kd.F_get HFR.out ([] : List Int) (j : Int) (by omega) (by omega)
          injection hA1 with hA1
          subst hA1
          have hnb := hin1 (by decide)
          exact cell_kept h1 HT.out.kept (by rw [add_block]; exact fun h => h.elim hnb.1.1 hnb.1.2)
        have HU2 := Aside0.mk hus2
        have hk1 : wr.cell? ⟨ba, 0, none⟩ = some (.func (.func 124) #[] #[.pointer (some ⟨bo, 0, none⟩), .pointer (some ⟨ba, 0, none⟩), .pointer (some ⟨bl, 0, none⟩)]) := blk_cell HENV.out.add 0
        have hk2 : wr.cell? ⟨bl, 0, none⟩ = some (.slice Al Lst.length cl) := blk_cell HENV.out.list 0
        have HMO := Aside0.mk (show ∀ Wc : World, Below wr.heap.size wr Wc → ∀ k, (frD wr bo v3 k ∨ wr.heap.size ≤ k) ∧ k < Wc.heap.size → frD Wc bo v3 k from fun Wc hbc k hk => ⟨hk.1.elim (fun h => h.1) (fun h => ⟨by have := blk_lt HENV.out.out; omega, fun e => by have := Kd.S_lt HS.out k e.symm; omega⟩), hk.2⟩)
        have HN0 := Aside0.mk (show A = none → rows.length = 0 ∧ rows.length = 0 from fun h => by
          subst h
          rcases Nat.eq_zero_or_pos rows.length with h | h
          · exact ⟨h, h⟩
          · obtain ⟨ad, e, _⟩ := (Kd.F_now HFr.out).2.2 h; cases e)
        obtain ⟨i0, hi0, hz0, hz1, hz2⟩ := info_parts info_rowsU
        have HBB := Aside0.mk (show B ≤ wr.heap.size from Nat.le_trans HBW2.out HT.out.size)
        have hrc : rows.length ≤ c := HCR.out
        have hrc2 : (0 : Int) ≤ (rows.length : Int) := by omega
        have hrc3 : (rows.length : Int) ≤ (c : Int) := by omega
        clear HM H hlt ha hb2 hFl hFr hFn hFK hcell hcl1 hcr hFx hrs hus2 hge hrw
        go_wp2
        go_region_held3 (fun W1 => W1.cell? ⟨ba, 0, none⟩ = some (.func (.func 124) #[] #[.pointer (some ⟨bo, 0, none⟩), .pointer (some ⟨ba, 0, none⟩), .pointer (some ⟨bl, 0, none⟩)]) ∧ W1.cell? ⟨bl, 0, none⟩ = some (.slice Al Lst.length cl)) (first | (exact ⟨hk1, hk2⟩) | (exact ⟨hq1, hq2⟩) | (have hh_ := ‹_ ∧ _›; exact ⟨pw_cell_below (below_alloc (Below.refl _ _) _) hh_.1, pw_cell_below (below_alloc (Below.refl _ _) _) hh_.2⟩)) (first
          | (go_at_call 97; (with_reducible refine (ds_below (a := row) (l := Lst) (by have := HROW.out; omega) hLl (fun x hx => (HLS.out x hx).1) HCRr.out HX.out HFl.out ?hbY).mono ?_); (case hbY => exact (by repeat (first | exact HBC.out | refine below_alloc ?_ _ | refine below_drew ?_))); rintro e w2 ⟨A2, c2, rfl, hc2, hF2, hb2⟩; have HC2 := Aside0.mk hc2; have HF2 := Aside0.mk hF2; (try (have n_ := Aside0.mk (Kd.F_below HF9.out hb2); clear HF9; have HF9 := n_; clear n_)); have n_ := fun h => Aside0.mk (Below.trans (B := wr.heap.size) h (hb2.mono (Below.size h))); have m_ := n_ (by repeat (first | exact HBC.out | refine below_alloc ?_ _ | refine below_drew ?_)); clear n_ HBC; have HBC := m_; clear m_; (try clear hq1 hq2); have hq1 := pw_cell_below HBC.out hk1; have hq2 := pw_cell_below HBC.out hk2; have HBZ := Aside0.mk hb2; clear hF2 hc2 hb2)
          | (refine step_append_grows (by rfl) (.tmp 26) (.tmp 28) 36 (by rfl) 22 i0 (.slice none 0 0) 1 24 Try.underlying36 hi0 hz0 hz1 hz2 rfl (by omega) A rows.length rows.length us (by rfl) HN0.out (by rw [Nat.mul_one]; exact hul) (fun b_ e_ j u hu => pw_cell_below (by repeat (first | exact HBC.out | refine below_alloc ?_ _ | refine below_drew ?_)) (HU2.out b_ e_ j u hu)) ⟨_, 0, none⟩ 1 1 [.slice Ar row.length cr] (by rfl) (by rfl) ?hn (by simp [Value.oneCell']) (by omega) (by unfold maxLen; omega) (by omega) ?_; (case hn => (intro j u hu; cases j with | zero => (simp only [List.getElem?_cons_zero, Option.some.injEq] at hu; subst hu; first | exact blk_cell (blk_new _ _) 0 | exact pw_cell_below HBZ.out (blk_cell (blk_new _ _) 0)) | succ j => simp at hu)); intro v9 w9 how9 hg9; have h9 := fun hb => app1_F HFr.out hul HU2.out HX.out HCRr.out hb how9 hg9; obtain ⟨A9, c9, rfl, hc9, hF9, hb9⟩ := h9 (by repeat (first | exact HBC.out | refine below_alloc ?_ _ | refine below_drew ?_)); have HF9 := Aside0.mk hF9; have HC9 := Aside0.mk hc9; (try (have n_ := Aside0.mk (Kd.F_below HF2.out hb9); clear HF2; have HF2 := n_; clear n_)); have n_ := fun h => Aside0.mk (Below.trans (B := wr.heap.size) h (hb9.mono (Below.size h))); have m_ := n_ (by repeat (first | exact HBC.out | refine below_alloc ?_ _ | refine below_drew ?_)); clear n_ HBC; have HBC := m_; clear m_; (try clear hq1 hq2); have hq1 := pw_cell_below HBC.out hk1; have hq2 := pw_cell_below HBC.out hk2; clear h9 how9 hg9 hF9 hc9 hb9)
          | (go_at_fn 124; have hlq : (rows ++ [row]).length = rows.length + 1 := by simp
             rw [← hlq]
             refine (IH.out k3 (by have := HK.out; omega) (rows ++ [row]) (Lst.filter fun x => standsB row x) a L2 A9 c9 A2 c2 v3 _ HA.out (by have := HK.out; have := HLEN.out; omega) (fun x hx => (List.mem_append.1 hx).elim (HRW.out x) (fun h => by rw [List.mem_singleton.1 h]; exact HROW.out)) (Nat.le_trans (List.length_filter_le _ _) hLl) (fun x hx => HLS.out x (List.mem_filter.1 hx).1) (by have := HXT.out; rw [← HL2.out] at this; simp only [List.length_append] at this ⊢; omega) (HENV.out.below HBC.out) (HB.out.trans (HBC.out.mono HBB.out)) (Nat.le_trans HBB.out HBC.out.size) (Kd.S_mono (Kd.S_old HS.out HBC.out) (fun k hk => hk.1)) (frD_below HFl.out HBC.out) (Kd.F_mono (Kd.F_bound (by rw [hlq]; rw [hlq] at HF9; exact HF9.out)) (HMO.out _ HBC.out)) (by have := HC9.out; omega) (Kd.F_mono (Kd.F_bound HF2.out) (HMO.out _ HBC.out)) HC2.out).mono ?_
             rintro e w4 ⟨rfl, v7, he7, hs7, ht7, hv7⟩
             clear hq1 hq2
             have hq1 := blk_cell he7.add 0
             have hq2 := blk_cell he7.list 0
             have HE7 := Aside0.mk he7
             have HS7 := Aside0.mk hs7
             have HT7 := Aside0.mk ht7
             have HV7 := Aside0.mk hv7
             clear he7 hs7 ht7 hv7 hlq))
        have HL5 := Aside0.mk (show (L2 ++ a) ++ b2 = XX by rw [List.append_assoc]; exact HL2.out)
        have HMS := Aside0.mk (show ∀ k, tD bo v3 k → B ≤ k from fun k hk => hk.elim (fun e => e ▸ HBO.out) (fun e => Kd.S_base HS.out k e.symm))
        have HMB := Aside0.mk (show ∀ k, tD bo v3 k → tD bo (.slice Av nv cv) k ∨ W.heap.size ≤ k from fun k hk => hk.elim (fun e => .inl (.inl e)) (fun e => (HV.out k e).elim (fun h => .inl (.inr h)) .inr))
        go_wp2
        go_roundg k3
        case measure => have := HK.out; omega
        case rel => exact ⟨i + 1, L2 ++ a, b2, v7, by omega, by go_num, HB2, ⟨by have := HK.out; omega⟩, HL5, HE7, HS7, ⟨(HT.out.then_below HBC.out).trans HT7.out HMB.out⟩, ⟨fun k hk => (HV7.out k hk).elim (fun e => HV.out k e) (fun e => .inr (by have := HT.out.size; have := HBC.out.size; omega))⟩, ⟨(HB.out.trans (HBC.out.mono HBB.out)).trans (HT7.out.below HMS.out (Nat.le_trans HBB.out HBC.out.size))⟩⟩
      · have hz : ¬ (i : Int) < (next.length : Int) := by omega
        have hie : i = next.length := by omega
        subst hie
        rw [List.drop_length, dsL] at H
        obtain rfl := Option.some.inj H
        have HL3 := Aside0.mk (show L2 = XX by have := HL2.out; rwa [List.append_nil] at this)
        clear H HM
        go_wp2
        go_end0
        exact ⟨rfl, v3, HENV.out, by rw [← HL3.out]; exact HS.out, HT.out, HV.out⟩

end Go.Proofs.Ytdcdkckpmkfjdaa

namespace Go.Proofs.Ytdcdkckpmkfjdaa.L
open Go.RowKit Go.Proofs.Ytdcdkckpmkfjdaa Go.Proofs.Ytdcdkckpmkfjdaa.P Go.Proofs.YtdcdkckpmkfjdaaW.PrintWords Go.Proofs.YtdcdkckpmkfjdaaW.PrintLast Go.Proofs.YtdcdkckpmkfjdaaW.PrintMore
set_option linter.unusedVariables false
set_option maxRecDepth 100000

/-- All descending tables for n. -/
def dsX (n : Int) : List (List (List Int)) := (dsE 1000 (frX n) [] (frX n)).getD []
def dsSmall (L : List (List (List Int))) : Bool := decide (L.length ≤ 2000) && L.all fun T => decide (T.length ≤ 100) && T.all fun r => decide (r.length ≤ 100)
/-- What is needed of the list for n. -/
structure DsAll (n : Int) : Prop where
  made : dsE 1000 (frX n) [] (frX n) = some (dsX n)
  sp : spec_dpAll.f 1000 [] n = some (dsX n)
  len : (dsX n).length ≤ 2000
  row : ∀ T ∈ dsX n, T.length ≤ 100 ∧ ∀ r ∈ T, r.length ≤ 100
  pos : ∀ r ∈ frX n, 0 < r.length
theorem DsAll.of {n : Int} (h : dsE 1000 (frX n) [] (frX n) = some (dsX n) ∧ spec_dpAll.f 1000 [] n = some (dsX n) ∧ dsSmall (dsX n) = true ∧ ((frX n).all fun r => decide (0 < r.length)) = true) : DsAll n := by
  obtain ⟨h1, h2, h3, h4⟩ := h
  rw [dsSmall, Bool.and_eq_true] at h3
  refine ⟨h1, h2, of_decide_eq_true h3.1, fun T hT => ?_, fun r hr => of_decide_eq_true (List.all_eq_true.1 h4 r hr)⟩
  have := List.all_eq_true.1 h3.2 T hT
  rw [Bool.and_eq_true] at this
  exact ⟨of_decide_eq_true this.1, fun r hr => of_decide_eq_true (List.all_eq_true.1 this.2 r hr)⟩
end Go.Proofs.Ytdcdkckpmkfjdaa.L

namespace Go.Proofs.Ytdcdkckpmkfjdaa.L
open Go.RowKit Go.Proofs.Ytdcdkckpmkfjdaa Go.Proofs.Ytdcdkckpmkfjdaa.P Go.Proofs.YtdcdkckpmkfjdaaW.PrintWords Go.Proofs.YtdcdkckpmkfjdaaW.PrintLast Go.Proofs.YtdcdkckpmkfjdaaW.PrintMore
set_option linter.unusedVariables false

end Go.Proofs.Ytdcdkckpmkfjdaa.L
