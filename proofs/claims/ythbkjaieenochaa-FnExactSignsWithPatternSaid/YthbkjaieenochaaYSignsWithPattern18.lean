/- Texts of one chain, in build order. -/
import Derived.Test.YthbkjaieenochaaYSignsWithPattern17
namespace Go.Proofs.Ythbkjaieenochaa.L
open Go.RowKit Go.Proofs.Ythbkjaieenochaa Go.Proofs.Ythbkjaieenochaa.P Go.Proofs.YthbkjaieenochaaW.PrintWords Go.Proofs.YthbkjaieenochaaW.PrintLast Go.Proofs.YthbkjaieenochaaW.PrintMore
set_option linter.unusedVariables false
set_option linter.unusedSimpArgs false

theorem own_atT {g j n c : Nat} (h : some j = (Value.slice (some ⟨g, 0, none⟩) n c).ownBlock) : j = g := by simpa [Value.ownBlock] using h
theorem F_takeN {W : World} {ok : Nat → Prop} {A : Option Addr} {xs : List (List Int)} {m : Nat} (h : Kd.F (Kd.slice 3 (Kd.int .i64)) W ok A xs.length xs) (hm : m ≤ xs.length) : Kd.F (Kd.slice 3 (Kd.int .i64)) W ok A m (xs.take m) := by
 have h2 := Kd.F_take h hm
 rwa [List.length_take, Nat.min_eq_left hm] at h2
theorem addr_zeroT (a : Addr) : a.add 0 = a := by cases a; rfl
theorem F_cutP {W : World} {ok : Nat → Prop} {a : Addr} {xs : List (List Int)} {m c : Nat} (h : Kd.F (Kd.slice 3 (Kd.int .i64)) W ok (some a) xs.length xs) (hm : m ≤ xs.length) (hc : xs.length ≤ c) (hne : ¬ c = m) : Kd.F (Kd.slice 3 (Kd.int .i64)) W ok (some (a.add m)) (xs.length - m) (xs.drop m) := by
 have h2 := Kd.F_cut h hm hc
 rw [List.length_drop, if_neg hne, show (Kd.slice 3 (Kd.int .i64)).sz = 1 from rfl, Nat.mul_one] at h2
 exact h2
theorem F_cutE {W : World} {ok : Nat → Prop} {A : Option Addr} {xs : List (List Int)} {m : Nat} (h : Kd.F (Kd.slice 3 (Kd.int .i64)) W ok A xs.length xs) (hm : m ≤ xs.length) (hc : xs.length ≤ m) : Kd.F (Kd.slice 3 (Kd.int .i64)) W ok A (xs.length - m) (xs.drop m) := by
 have h2 := Kd.F_cut h hm hc
 rw [List.length_drop, if_pos rfl] at h2
 exact h2
/-- The place at which a row comes into a list. -/
def tnP : Nat → List Int → Int → List (List Int) → List Int → Nat → Option Nat
 | 0, _, _, _, _, _ => none
 | k + 1, row, n, O, nx, j => if j < O.length then (spec_trStep.f 1000 row (O.getD j []) n).bind fun a => (spec_trStep.f 1000 row nx n).bind fun b => (spec_trRowLess.f 1000 a b).bind fun t => if t = true then tnP k row n O nx (j + 1) else some j else some j
def tnL : Nat → List Int → Int → List (List Int) → List (List Int) → Option (List (List Int))
 | 0, _, _, _, _ => none
 | k + 1, row, n, L, O => match L with
  | [] => some O
  | nx :: rest => (tnP 1000 row n O nx 0).bind fun p => if p ≤ O.length then tnL k row n rest ((O.take p ++ [nx]) ++ O.drop p) else none
def tnE (row : List Int) (n : Int) : Option (List (List Int)) := (spec_trBehind.f 1000 row [] n).bind fun L => if L.length ≤ 1000 then tnL 2000 row n L [] else none
/-- A list of rows comes back, all in new blocks. -/
def RetNW (w : World) (L : List (List Int)) (e : Ending) (w' : World) : Prop := ∃ v : Value, e = .returned v ∧ Kd.N (Kd.slice 3 (Kd.int .i64)) 28 w' w.heap.size (fun k => w.heap.size ≤ k) v L ∧ Below w.heap.size w w'
set_option maxHeartbeats 4000000 in
set_option maxRecDepth 100000 in
theorem spec_trNext.callsG (row : List Int) (n : Int) (X : List (List Int)) (A : Option Addr) (c : Nat) (W : World) (hX : tnE row n = some X) (hC : Kd.C (Kd.int .i64) W A row.length row) (hc : row.length ≤ c) :
  Calls Try.prog 91 #[.slice A row.length c, .int .i64 n] W (RetNW W X) := by
 obtain ⟨L, hL, hX⟩ := Option.bind_eq_some_iff.1 hX
 split at hX
 case isFalse => cases hX
 rename_i hLl
 have HM := Aside0.mk hX
 have HC := Aside0.mk (Kd.C_F (Kd.heap_int _) hC)
 have HCC := Aside0.mk hc
 have HB := Aside0.mk (Below.refl W.heap.size W)
 have HR := Aside0.mk (fun W' (hb : Below W.heap.size W W') => spec_trBehind.calls 1000 A c row none 0 [] n L W' (Kd.F_now (Kd.F_below HC.out hb)) HCC.out (Kd.F_now (Kd.F_nil (Kd.int .i64) W' (fun _ => True))) (Nat.le_refl _) hL)
 clear hX hL hC hc
 go_enter Try.func91, Try.ntmps91
 go_wp2_with (go_at_call 104; refine (HR.out _ HB.out).mono ?_; rintro e w1 ⟨v1, rfl, hN, hb⟩; obtain ⟨Al, cl, rfl⟩ := Kd.N_slice hN; have HL := Aside0.mk (Kd.F_mono (ok' := fun j => W.heap.size ≤ j ∧ j < w1.heap.size) (Kd.F_bound (Kd.N_F hN)) (fun j hj => hj)); have HB1 := Aside0.mk hb; clear hN hb)
 have HSZ := Aside0.mk (show W.heap.size ≤ w1.heap.size from HB1.out.size)
 clear HR
 go_loopg [5, 14] 2000 (fun kq s5 s14 wr => ∃ (i : Nat) (O : List (List Int)), i ≤ L.length ∧ s14 = .int .i64 i ∧ Aside0 (O.length = i) ∧ Aside0 (tnL kq row n (L.drop i) O = some X) ∧ Aside0 (Kd.N (Kd.slice 3 (Kd.int .i64)) 28 wr w1.heap.size (fun k => W.heap.size ≤ k) s5 O) ∧ Aside0 (Below w1.heap.size w1 wr))
 case atStart => exact ⟨0, [], Nat.zero_le _, rfl, ⟨rfl⟩, HM, ⟨Kd.N_nil _ _ _ _ _⟩, ⟨Below.refl _ _⟩⟩
 case round =>
  clear HM
  obtain ⟨i, O, hi, rfl, HOL, HM, HN, HBr⟩ := hrel
  cases gk with
  | zero => exact absurd HM.out (by simp [tnL])
  | succ k3 =>
  have H := HM.out
  by_cases hlt : i < L.length
  ·have hz : (i : Int) < (L.length : Int) := by omega
   obtain ⟨nx, hnx⟩ : ∃ r, r = L[i] := ⟨_, rfl⟩
   rw [List.drop_eq_getElem_cons hlt, ← hnx, tnL] at H
   obtain ⟨p, hp, H⟩ := Option.bind_eq_some_iff.1 H
   split at H
   case isFalse => cases H
   rename_i hpO
   obtain ⟨ad, cc, hA, hcl1, hFK, hcell, _⟩ := Kd.F_get HL.out ([] : List Int) (i : Int) (by omega) (by omega)
   subst hA
   obtain ⟨Ar, cr, rfl, hcr, hFx⟩ := Kd.FK_slice_open hFK
   have hx := hcell 0 _ rfl
   rw [Int.toNat_natCast, show (Kd.slice 3 (Kd.int .i64)).sz = 1 from rfl, Nat.mul_one, Nat.add_zero] at hx
   have hge : L.getD i [] = nx := by rw [hnx, List.getD_eq_getElem?_getD, List.getElem?_eq_getElem hlt]; rfl
   rw [Int.toNat_natCast, hge] at hcr hFx
   rw [hge] at hx
   replace hx := pw_cell_below HBr.out hx
   have HLT := Aside0.mk (show O.length + 1 ≤ L.length by have := HOL.out; omega)
   have hO1 : O.length ≤ 1000 := by have := HOL.out; omega
   have HXF := Aside0.mk hFx
   have HCR := Aside0.mk hcr
   have HP := Aside0.mk hp
   have HT := Aside0.mk H
   obtain ⟨wo, rfl⟩ : ∃ wo : World, wo = wr := ⟨_, rfl⟩
   have HBo := Aside0.mk (HB1.out.trans (HBr.out.mono HSZ.out))
   obtain ⟨A5, c5, hu5⟩ := Kd.N_slice HN.out
   subst hu5
   have HBI := Aside0.mk (Below.refl wo.heap.size wo)
   clear HM H hp hFK hcell hcl1 hcr hFx hge hnx
   go_wp2
   go_loopg [8] 1000 (fun kj s8 wr2 => ∃ j : Nat, j ≤ O.length ∧ s8 = .int .i64 j ∧ Aside0 (tnP kj row n O nx j = some p) ∧ Aside0 (Below wo.heap.size wo wr2))
   case atStart => exact ⟨0, Nat.zero_le _, rfl, HP, HBI⟩
   case round =>
    clear HP HBI hx
    obtain ⟨j, hj, rfl, HP, HBI⟩ := hrel
    cases gk with
    | zero => exact absurd HP.out (by simp [tnP])
    | succ kj =>
    have H := HP.out
    rw [tnP] at H
    by_cases hjt : j < O.length
    ·rw [if_pos hjt] at H
     obtain ⟨a, ha, H⟩ := Option.bind_eq_some_iff.1 H
     obtain ⟨b, hb, H⟩ := Option.bind_eq_some_iff.1 H
     obtain ⟨t, ht, H⟩ := Option.bind_eq_some_iff.1 H
     have hjz : (j : Int) < (O.length : Int) := by omega
     obtain ⟨ad5, cc5, hA5, _, hFK5, hcell5, _⟩ := Kd.F_get (Kd.N_F HN.out) ([] : List Int) (j : Int) (by omega) (by omega)
     subst hA5
     obtain ⟨Aj, cj, rfl, hcj, hFj⟩ := Kd.FK_slice_open hFK5
     have hy := hcell5 0 _ rfl
     rw [Int.toNat_natCast, show (Kd.slice 3 (Kd.int .i64)).sz = 1 from rfl, Nat.mul_one, Nat.add_zero] at hy
     rw [Int.toNat_natCast] at hcj hFj
     replace hy := pw_cell_below HBI.out hy
     obtain ⟨oj, hoj⟩ : ∃ r, r = O.getD j [] := ⟨_, rfl⟩
     rw [← hoj] at hcj hFj hy ha
     have HBN := Aside0.mk (show Below wr.heap.size wr wr from Below.refl _ _)
     have HWW := Aside0.mk (show Below W.heap.size W wr from HBo.out.trans (HBI.out.mono (by have := HBo.out.size; omega)))
     have HS1 := Aside0.mk (fun W' (hb' : Below wr.heap.size wr W') => spec_trStep.calls 1000 A c row Aj cj oj n a W' (Kd.F_now (Kd.F_below HC.out (HWW.out.trans (hb'.mono HWW.out.size)))) HCC.out (Kd.F_now (Kd.F_below hFj (HBI.out.trans (hb'.mono HBI.out.size)))) hcj ha)
     have HS2 := Aside0.mk (fun W' (hb' : Below wr.heap.size wr W') => spec_trStep.calls 1000 A c row Ar cr nx n b W' (Kd.F_now (Kd.F_below HC.out (HWW.out.trans (hb'.mono HWW.out.size)))) HCC.out (Kd.F_now (Kd.F_below HXF.out ((HBr.out.trans (HBI.out.mono HBr.out.size)).trans (hb'.mono (Nat.le_trans HBr.out.size HBI.out.size))))) HCR.out hb)
     have HS3 := Aside0.mk (fun W' A1 c1 A2 c2 h1 g1 h2 g2 => spec_trRowLess.calls 1000 A1 c1 a A2 c2 b t W' h1 g1 h2 g2 ht)
     have HQ := Aside0.mk H
     clear H ha hb ht hFK5 hcell5 hFj hoj
     cases t with
     | true =>
      rw [if_pos rfl] at HQ
      go_wp2_with (first
       | (go_at_call 92; have p_ := HS1; clear p_; refine (HS1.out _ HBN.out).mono ?_; clear HS1; rintro e w2 ⟨v2, rfl, hR2, hb2⟩; obtain ⟨Aa, ca, rfl⟩ := Kd.R_slice hR2; have HRA := Aside0.mk (Kd.R_reads' hR2).2.2; have HRAc := Aside0.mk (Kd.R_reads' hR2).2.1; have n_ := Aside0.mk (below_step HBN.out hb2); clear HBN hR2 hb2; have HBN := n_; clear n_)
       | (go_at_call 92; refine (HS2.out _ HBN.out).mono ?_; clear HS2; rintro e w3 ⟨v3, rfl, hR3, hb3⟩; obtain ⟨Ab, cb, rfl⟩ := Kd.R_slice hR3; have HRB := Aside0.mk (Kd.R_reads' hR3).2.2; have HRBc := Aside0.mk (Kd.R_reads' hR3).2.1; have HRA3 := Aside0.mk (Kd.C_below HRA.out hb3); have n_ := Aside0.mk (below_step HBN.out hb3); clear HBN hR3 hb3; have HBN := n_; clear n_)
       | (go_at_call 105; refine (HS3.out _ _ _ _ _ HRA3.out HRAc.out HRB.out HRBc.out).mono ?_; rintro e w4 ⟨rfl, hd⟩; have hb4 := hd.below; clear hd; have n_ := Aside0.mk (below_step HBN.out hb4); clear HBN hb4; have HBN := n_; clear n_))
      go_roundg kj
      case measure => omega
      case rel => exact ⟨j + 1, by clear hy; omega, by go_num, HQ, ⟨below_step HBI.out HBN.out⟩⟩
     | false =>
      rw [if_neg (by simp)] at HQ
      have HPJ := Aside0.mk (Option.some.inj HQ.out)
      clear HQ
      have hpj := HPJ.out
      subst hpj
      have hs1 := HBr.out.size
      have hc5 := (Kd.N_reads' HN.out).2.1
      have hjc := Nat.le_trans hj hc5
      have hzz := HSZ.out
      have hOL : O.length ≤ 1000 := by have := HLT.out; omega
      clear hz
      rcases Nat.eq_zero_or_pos j with h0 | h0
      ·subst h0
       have hy1 := hy
       rw [addr_zeroT] at hy1
       go_wp2_with (first
        | (go_at_call 92; have p_ := HS1; clear p_; refine (HS1.out _ HBN.out).mono ?_; clear HS1; rintro e w2 ⟨v2, rfl, hR2, hb2⟩; obtain ⟨Aa, ca, rfl⟩ := Kd.R_slice hR2; have HRA := Aside0.mk (Kd.R_reads' hR2).2.2; have HRAc := Aside0.mk (Kd.R_reads' hR2).2.1; have n_ := Aside0.mk (below_step HBN.out hb2); clear HBN hR2 hb2; have HBN := n_; clear n_)
        | (go_at_call 92; refine (HS2.out _ HBN.out).mono ?_; clear HS2; rintro e w3 ⟨v3, rfl, hR3, hb3⟩; obtain ⟨Ab, cb, rfl⟩ := Kd.R_slice hR3; have HRB := Aside0.mk (Kd.R_reads' hR3).2.2; have HRBc := Aside0.mk (Kd.R_reads' hR3).2.1; have HRA3 := Aside0.mk (Kd.C_below HRA.out hb3); have n_ := Aside0.mk (below_step HBN.out hb3); clear HBN hR3 hb3; have HBN := n_; clear n_)
        | (go_at_call 105; refine (HS3.out _ _ _ _ _ HRA3.out HRAc.out HRB.out HRBc.out).mono ?_; rintro e w4 ⟨rfl, hd⟩; have hb4 := hd.below; clear hd; have n_ := Aside0.mk (below_step HBN.out hb4); clear HBN hb4; have HBN := n_; clear n_; have HWQ := Aside0.mk (below_step HBI.out HBN.out); obtain ⟨wq, rfl⟩ : ∃ wq : World, wq = w4 := ⟨_, rfl⟩; have hsq := HWQ.out.size; have HF5 := Aside0.mk (Kd.F_below (Kd.F_bound (Kd.N_F HN.out)) HWQ.out); have HE := Aside0.mk (show Kd.N (Kd.slice 3 (Kd.int .i64)) 28 (wq.alloc (.cells #[] 28)) wq.heap.size (fun k => W.heap.size ≤ k) (.slice (some ⟨wq.heap.size, 0, none⟩) 0 0) ([] : List (List Int)) from Kd.S_N (S_empty (blk_new wq _) (Nat.le_refl _) (by have := HSZ.out; omega))); have HXQ := Aside0.mk (Kd.F_below HXF.out (HBr.out.trans (HWQ.out.mono hs1))); have HFT := Aside0.mk (F_takeN HF5.out hj))
        | ((with_reducible refine gate_builtin (b := .append) (xs := #[.tmp 38, .tmp 41]) rfl ?_); at_builtin; refine Kd.N_append_rows (Kd.slice 3 (Kd.int .i64)) (w0 := wq) wq.heap.size rfl (.tmp 38) (.tmp 41) 22 28 (.slice none 0 0) 24 rfl Try.underlying22 info_rowsU rfl (by decide) (by omega) (.slice (some ⟨wq.heap.size, 0, none⟩) 0 0) ([] : List (List Int)) (O.take 0) _ _ _ (fun k => W.heap.size ≤ k) (fun k => W.heap.size ≤ k ∧ k < wo.heap.size) rfl rfl HE.out (Kd.F_alloc HFT.out _) (fun k hk => ⟨hk.1, fun e => by have := own_atT e; have := hk.2; omega⟩) (fun k hk => by have h : wq.heap.size ≤ k := Nat.le_trans (by simp) hk; omega) (below_alloc (Below.refl _ _) _) (by simp) (by simp only [List.length_nil]; omega) ?_; intro v7 w7 ho7 hb7 hg7 hat7; rw [List.nil_append] at ho7; have HN7 := Aside0.mk ho7; have HB7 := Aside0.mk hb7; clear ho7 hb7 hg7 hat7)
        | ((with_reducible refine gate_builtin (b := .append) (xs := #[.tmp 42, .tmp 44]) rfl ?_); at_builtin; refine Kd.N_append (Kd.slice 3 (Kd.int .i64)) (w0 := wq) wq.heap.size rfl (.tmp 42) (.tmp 44) 22 28 (.slice none 0 0) 24 rfl Try.underlying22 info_rowsU rfl (by decide) (by omega) v7 (O.take 0) nx [.slice Ar nx.length cr] (fun k => W.heap.size ≤ k) (fun k => W.heap.size ≤ k ∧ k < w1.heap.size) rfl rfl (Kd.FK_slice_mk HCR.out (Kd.F_below HXQ.out HB7.out)) (fun k hk => ⟨hk.1, fun e => by have := Kd.N_base HN7.out k e.symm; have := hk.2; omega⟩) (fun k hk => by have := HB7.out.size; omega) HN7.out HB7.out HB7.out.size (by rw [List.length_take]; omega) ?_; intro v8 w8 ho8 hb8 hg8 hat8; have HN8 := Aside0.mk ho8; have HB8 := Aside0.mk hb8; clear ho8 hb8 hg8 hat8)
        | ((with_reducible refine gate_builtin (b := .append) (xs := #[.tmp 46, .tmp 49]) rfl ?_); at_builtin; refine Kd.N_append_rows (Kd.slice 3 (Kd.int .i64)) (w0 := wq) wq.heap.size rfl (.tmp 46) (.tmp 49) 22 28 (.slice none 0 0) 24 rfl Try.underlying22 info_rowsU rfl (by decide) (by omega) v8 (O.take 0 ++ [nx]) O _ _ _ (fun k => W.heap.size ≤ k) (fun k => W.heap.size ≤ k ∧ k < wo.heap.size) rfl rfl HN8.out (Kd.F_below HF5.out HB8.out) (fun k hk => ⟨hk.1, fun e => by have := Kd.N_base HN8.out k e.symm; have := hk.2; omega⟩) (fun k hk => by have := HB8.out.size; omega) HB8.out HB8.out.size (by rw [List.length_append, List.length_take]; simp only [List.length_cons, List.length_nil]; omega) ?_; intro v9 w9 ho9 hb9 hg9 hat9; have HN9 := Aside0.mk ho9; have HB9 := Aside0.mk hb9; clear ho9 hb9 hg9 hat9))
       go_roundg k3
       case measure => omega
       case rel => exact ⟨i + 1, ((O.take 0 ++ [nx]) ++ O), by omega, by go_num, ⟨by have := HOL.out; simp; omega⟩, ⟨by have h := HT.out; rwa [List.drop_zero] at h⟩, ⟨Kd.N_lower HN9.out (by omega)⟩, ⟨HBr.out.trans ((below_step HWQ.out HB9.out).mono hs1)⟩⟩
      ·have hz0 : ¬ ((j : Int) = 0) := by omega
       have hz1 : ¬ (j = 0) := by omega
       have hcj : ¬ c5 = j := by omega
       go_wp2_with (first
        | (go_at_call 92; have p_ := HS1; clear p_; refine (HS1.out _ HBN.out).mono ?_; clear HS1; rintro e w2 ⟨v2, rfl, hR2, hb2⟩; obtain ⟨Aa, ca, rfl⟩ := Kd.R_slice hR2; have HRA := Aside0.mk (Kd.R_reads' hR2).2.2; have HRAc := Aside0.mk (Kd.R_reads' hR2).2.1; have n_ := Aside0.mk (below_step HBN.out hb2); clear HBN hR2 hb2; have HBN := n_; clear n_)
        | (go_at_call 92; refine (HS2.out _ HBN.out).mono ?_; clear HS2; rintro e w3 ⟨v3, rfl, hR3, hb3⟩; obtain ⟨Ab, cb, rfl⟩ := Kd.R_slice hR3; have HRB := Aside0.mk (Kd.R_reads' hR3).2.2; have HRBc := Aside0.mk (Kd.R_reads' hR3).2.1; have HRA3 := Aside0.mk (Kd.C_below HRA.out hb3); have n_ := Aside0.mk (below_step HBN.out hb3); clear HBN hR3 hb3; have HBN := n_; clear n_)
        | (go_at_call 105; refine (HS3.out _ _ _ _ _ HRA3.out HRAc.out HRB.out HRBc.out).mono ?_; rintro e w4 ⟨rfl, hd⟩; have hb4 := hd.below; clear hd; have n_ := Aside0.mk (below_step HBN.out hb4); clear HBN hb4; have HBN := n_; clear n_; have HWQ := Aside0.mk (below_step HBI.out HBN.out); obtain ⟨wq, rfl⟩ : ∃ wq : World, wq = w4 := ⟨_, rfl⟩; have hsq := HWQ.out.size; have HF5 := Aside0.mk (Kd.F_below (Kd.F_bound (Kd.N_F HN.out)) HWQ.out); have HE := Aside0.mk (show Kd.N (Kd.slice 3 (Kd.int .i64)) 28 (wq.alloc (.cells #[] 28)) wq.heap.size (fun k => W.heap.size ≤ k) (.slice (some ⟨wq.heap.size, 0, none⟩) 0 0) ([] : List (List Int)) from Kd.S_N (S_empty (blk_new wq _) (Nat.le_refl _) (by have := HSZ.out; omega))); have HXQ := Aside0.mk (Kd.F_below HXF.out (HBr.out.trans (HWQ.out.mono hs1))); have HFT := Aside0.mk (F_takeN HF5.out hj); have HFD := Aside0.mk (F_cutP HF5.out hj hc5 hcj))
        | ((with_reducible refine gate_builtin (b := .append) (xs := #[.tmp 38, .tmp 41]) rfl ?_); at_builtin; refine Kd.N_append_rows (Kd.slice 3 (Kd.int .i64)) (w0 := wq) wq.heap.size rfl (.tmp 38) (.tmp 41) 22 28 (.slice none 0 0) 24 rfl Try.underlying22 info_rowsU rfl (by decide) (by omega) (.slice (some ⟨wq.heap.size, 0, none⟩) 0 0) ([] : List (List Int)) (O.take j) _ _ _ (fun k => W.heap.size ≤ k) (fun k => W.heap.size ≤ k ∧ k < wo.heap.size) rfl rfl HE.out (Kd.F_alloc HFT.out _) (fun k hk => ⟨hk.1, fun e => by have := own_atT e; have := hk.2; omega⟩) (fun k hk => by have h : wq.heap.size ≤ k := Nat.le_trans (by simp) hk; omega) (below_alloc (Below.refl _ _) _) (by simp) (by simp only [List.length_nil]; omega) ?_; intro v7 w7 ho7 hb7 hg7 hat7; rw [List.nil_append] at ho7; have HN7 := Aside0.mk ho7; have HB7 := Aside0.mk hb7; clear ho7 hb7 hg7 hat7)
        | ((with_reducible refine gate_builtin (b := .append) (xs := #[.tmp 42, .tmp 44]) rfl ?_); at_builtin; refine Kd.N_append (Kd.slice 3 (Kd.int .i64)) (w0 := wq) wq.heap.size rfl (.tmp 42) (.tmp 44) 22 28 (.slice none 0 0) 24 rfl Try.underlying22 info_rowsU rfl (by decide) (by omega) v7 (O.take j) nx [.slice Ar nx.length cr] (fun k => W.heap.size ≤ k) (fun k => W.heap.size ≤ k ∧ k < w1.heap.size) rfl rfl (Kd.FK_slice_mk HCR.out (Kd.F_below HXQ.out HB7.out)) (fun k hk => ⟨hk.1, fun e => by have := Kd.N_base HN7.out k e.symm; have := hk.2; omega⟩) (fun k hk => by have := HB7.out.size; omega) HN7.out HB7.out HB7.out.size (by rw [List.length_take]; omega) ?_; intro v8 w8 ho8 hb8 hg8 hat8; have HN8 := Aside0.mk ho8; have HB8 := Aside0.mk hb8; clear ho8 hb8 hg8 hat8)
        | ((with_reducible refine gate_builtin (b := .append) (xs := #[.tmp 46, .tmp 49]) rfl ?_); at_builtin; refine Kd.N_append_rows (Kd.slice 3 (Kd.int .i64)) (w0 := wq) wq.heap.size rfl (.tmp 46) (.tmp 49) 22 28 (.slice none 0 0) 24 rfl Try.underlying22 info_rowsU rfl (by decide) (by omega) v8 (O.take j ++ [nx]) (O.drop j) _ _ _ (fun k => W.heap.size ≤ k) (fun k => W.heap.size ≤ k ∧ k < wo.heap.size) rfl rfl HN8.out (Kd.F_below HFD.out HB8.out) (fun k hk => ⟨hk.1, fun e => by have := Kd.N_base HN8.out k e.symm; have := hk.2; omega⟩) (fun k hk => by have := HB8.out.size; omega) HB8.out HB8.out.size (by rw [List.length_append, List.length_take]; simp only [List.length_cons, List.length_nil]; omega) ?_; intro v9 w9 ho9 hb9 hg9 hat9; have HN9 := Aside0.mk ho9; have HB9 := Aside0.mk hb9; clear ho9 hb9 hg9 hat9))
       go_roundg k3
       case measure => omega
       case rel => exact ⟨i + 1, _, by omega, by go_num, ⟨by have := HOL.out; simp [List.length_append, List.length_take, List.length_drop]; omega⟩, ⟨by have h := HT.out; exact h⟩, ⟨Kd.N_lower HN9.out (by omega)⟩, ⟨HBr.out.trans ((below_step HWQ.out HB9.out).mono hs1)⟩⟩
    ·rw [if_neg hjt] at H
     have hjz : ¬ (j : Int) < (O.length : Int) := by omega
     have HPJ := Aside0.mk (Option.some.inj H)
     have HBN := Aside0.mk (show Below wr.heap.size wr wr from Below.refl _ _)
     clear H
     have hpj := HPJ.out
     subst hpj
     have hs1 := HBr.out.size
     have hc5 := (Kd.N_reads' HN.out).2.1
     have hjc := Nat.le_trans hj hc5
     have hzz := HSZ.out
     have hOL : O.length ≤ 1000 := by have := HLT.out; omega
     clear hz
     have HWQ := Aside0.mk (below_step HBI.out HBN.out)
     obtain ⟨wq, rfl⟩ : ∃ wq : World, wq = wr := ⟨_, rfl⟩
     have hsq := HWQ.out.size
     have HF5 := Aside0.mk (Kd.F_below (Kd.F_bound (Kd.N_F HN.out)) HWQ.out)
     have HE := Aside0.mk (show Kd.N (Kd.slice 3 (Kd.int .i64)) 28 (wq.alloc (.cells #[] 28)) wq.heap.size (fun k => W.heap.size ≤ k) (.slice (some ⟨wq.heap.size, 0, none⟩) 0 0) ([] : List (List Int)) from Kd.S_N (S_empty (blk_new wq _) (Nat.le_refl _) (by have := HSZ.out; omega)))
     have HXQ := Aside0.mk (Kd.F_below HXF.out (HBr.out.trans (HWQ.out.mono hs1)))
     rcases Nat.eq_zero_or_pos j with h0 | h0
     ·subst h0
      obtain rfl : O = [] := List.length_eq_zero_iff.1 (by omega)
      go_wp2_with (first
       | ((with_reducible refine gate_builtin (b := .append) (xs := #[.tmp 38, .tmp 41]) rfl ?_); at_builtin; refine Kd.N_append_rows (Kd.slice 3 (Kd.int .i64)) (w0 := wq) wq.heap.size rfl (.tmp 38) (.tmp 41) 22 28 (.slice none 0 0) 24 rfl Try.underlying22 info_rowsU rfl (by decide) (by omega) (.slice (some ⟨wq.heap.size, 0, none⟩) 0 0) ([] : List (List Int)) ([] : List (List Int)) _ _ _ (fun k => W.heap.size ≤ k) (fun k => W.heap.size ≤ k ∧ k < wo.heap.size) rfl rfl HE.out (Kd.F_alloc HF5.out _) (fun k hk => ⟨hk.1, fun e => by have := own_atT e; have := hk.2; omega⟩) (fun k hk => by have h : wq.heap.size ≤ k := Nat.le_trans (by simp) hk; omega) (below_alloc (Below.refl _ _) _) (by simp) (by simp only [List.length_nil]; omega) ?_; intro v7 w7 ho7 hb7 hg7 hat7; rw [List.nil_append] at ho7; have HN7 := Aside0.mk ho7; have HB7 := Aside0.mk hb7; clear ho7 hb7 hg7 hat7)
       | ((with_reducible refine gate_builtin (b := .append) (xs := #[.tmp 42, .tmp 44]) rfl ?_); at_builtin; refine Kd.N_append (Kd.slice 3 (Kd.int .i64)) (w0 := wq) wq.heap.size rfl (.tmp 42) (.tmp 44) 22 28 (.slice none 0 0) 24 rfl Try.underlying22 info_rowsU rfl (by decide) (by omega) v7 ([] : List (List Int)) nx [.slice Ar nx.length cr] (fun k => W.heap.size ≤ k) (fun k => W.heap.size ≤ k ∧ k < w1.heap.size) rfl rfl (Kd.FK_slice_mk HCR.out (Kd.F_below HXQ.out HB7.out)) (fun k hk => ⟨hk.1, fun e => by have := Kd.N_base HN7.out k e.symm; have := hk.2; omega⟩) (fun k hk => by have := HB7.out.size; omega) HN7.out HB7.out HB7.out.size (by simp) ?_; intro v8 w8 ho8 hb8 hg8 hat8; have HN8 := Aside0.mk ho8; have HB8 := Aside0.mk hb8; clear ho8 hb8 hg8 hat8)
       | ((with_reducible refine gate_builtin (b := .append) (xs := #[.tmp 46, .tmp 49]) rfl ?_); at_builtin; refine Kd.N_append_rows (Kd.slice 3 (Kd.int .i64)) (w0 := wq) wq.heap.size rfl (.tmp 46) (.tmp 49) 22 28 (.slice none 0 0) 24 rfl Try.underlying22 info_rowsU rfl (by decide) (by omega) v8 ([] ++ [nx]) ([] : List (List Int)) _ _ _ (fun k => W.heap.size ≤ k) (fun k => W.heap.size ≤ k ∧ k < wo.heap.size) rfl rfl HN8.out (Kd.F_below HF5.out HB8.out) (fun k hk => ⟨hk.1, fun e => by have := Kd.N_base HN8.out k e.symm; have := hk.2; omega⟩) (fun k hk => by have := HB8.out.size; omega) HB8.out HB8.out.size (by simp) ?_; intro v9 w9 ho9 hb9 hg9 hat9; have HN9 := Aside0.mk ho9; have HB9 := Aside0.mk hb9; clear ho9 hb9 hg9 hat9))
      go_roundg k3
      case measure => omega
      case rel => exact ⟨i + 1, (([] ++ [nx]) ++ []), by omega, by go_num, ⟨by have := HOL.out; simp at this; simp; omega⟩, ⟨by have h := HT.out; rwa [List.take_nil, List.drop_nil] at h⟩, ⟨Kd.N_lower HN9.out (by omega)⟩, ⟨HBr.out.trans ((below_step HWQ.out HB9.out).mono hs1)⟩⟩
     ·have hz0 : ¬ ((j : Int) = 0) := by omega
      have hz1 : ¬ (j = 0) := by omega
      obtain ⟨a5, e5, _⟩ := (Kd.N_reads' HN.out).2.2.2.2 (by omega)
      subst e5
      by_cases hcj : c5 = j
      ·have hcs := hcj.symm
       subst hcs
       have HFT := Aside0.mk (F_takeN HF5.out hj)
       have hfd := F_cutE HF5.out hj hc5
       rw [show O.length - j = 0 by omega] at hfd
       have HFD := Aside0.mk hfd
       clear hfd
       go_wp2_with (first
        | ((with_reducible refine gate_builtin (b := .append) (xs := #[.tmp 38, .tmp 41]) rfl ?_); at_builtin; refine Kd.N_append_rows (Kd.slice 3 (Kd.int .i64)) (w0 := wq) wq.heap.size rfl (.tmp 38) (.tmp 41) 22 28 (.slice none 0 0) 24 rfl Try.underlying22 info_rowsU rfl (by decide) (by omega) (.slice (some ⟨wq.heap.size, 0, none⟩) 0 0) ([] : List (List Int)) (O.take j) _ _ _ (fun k => W.heap.size ≤ k) (fun k => W.heap.size ≤ k ∧ k < wo.heap.size) rfl rfl HE.out (Kd.F_alloc HFT.out _) (fun k hk => ⟨hk.1, fun e => by have := own_atT e; have := hk.2; omega⟩) (fun k hk => by have h : wq.heap.size ≤ k := Nat.le_trans (by simp) hk; omega) (below_alloc (Below.refl _ _) _) (by simp) (by simp only [List.length_nil]; omega) ?_; intro v7 w7 ho7 hb7 hg7 hat7; rw [List.nil_append] at ho7; have HN7 := Aside0.mk ho7; have HB7 := Aside0.mk hb7; clear ho7 hb7 hg7 hat7)
        | ((with_reducible refine gate_builtin (b := .append) (xs := #[.tmp 42, .tmp 44]) rfl ?_); at_builtin; refine Kd.N_append (Kd.slice 3 (Kd.int .i64)) (w0 := wq) wq.heap.size rfl (.tmp 42) (.tmp 44) 22 28 (.slice none 0 0) 24 rfl Try.underlying22 info_rowsU rfl (by decide) (by omega) v7 (O.take j) nx [.slice Ar nx.length cr] (fun k => W.heap.size ≤ k) (fun k => W.heap.size ≤ k ∧ k < w1.heap.size) rfl rfl (Kd.FK_slice_mk HCR.out (Kd.F_below HXQ.out HB7.out)) (fun k hk => ⟨hk.1, fun e => by have := Kd.N_base HN7.out k e.symm; have := hk.2; omega⟩) (fun k hk => by have := HB7.out.size; omega) HN7.out HB7.out HB7.out.size (by rw [List.length_take]; omega) ?_; intro v8 w8 ho8 hb8 hg8 hat8; have HN8 := Aside0.mk ho8; have HB8 := Aside0.mk hb8; clear ho8 hb8 hg8 hat8)
        | ((with_reducible refine gate_builtin (b := .append) (xs := #[.tmp 46, .tmp 49]) rfl ?_); at_builtin; refine Kd.N_append_rows (Kd.slice 3 (Kd.int .i64)) (w0 := wq) wq.heap.size rfl (.tmp 46) (.tmp 49) 22 28 (.slice none 0 0) 24 rfl Try.underlying22 info_rowsU rfl (by decide) (by omega) v8 (O.take j ++ [nx]) (O.drop j) _ _ _ (fun k => W.heap.size ≤ k) (fun k => W.heap.size ≤ k ∧ k < wo.heap.size) rfl rfl HN8.out (Kd.F_below HFD.out HB8.out) (fun k hk => ⟨hk.1, fun e => by have := Kd.N_base HN8.out k e.symm; have := hk.2; omega⟩) (fun k hk => by have := HB8.out.size; omega) HB8.out HB8.out.size (by rw [List.length_append, List.length_take]; simp only [List.length_cons, List.length_nil]; omega) ?_; intro v9 w9 ho9 hb9 hg9 hat9; have HN9 := Aside0.mk ho9; have HB9 := Aside0.mk hb9; clear ho9 hb9 hg9 hat9))
       go_roundg k3
       case measure => omega
       case rel => exact ⟨i + 1, _, by omega, by go_num, ⟨by have := HOL.out; simp [List.length_append, List.length_take, List.length_drop]; omega⟩, ⟨by have h := HT.out; exact h⟩, ⟨Kd.N_lower HN9.out (by omega)⟩, ⟨HBr.out.trans ((below_step HWQ.out HB9.out).mono hs1)⟩⟩
      ·have HFT := Aside0.mk (F_takeN HF5.out hj)
       have HFD := Aside0.mk (F_cutP HF5.out hj hc5 hcj)
       go_wp2_with (first
        | ((with_reducible refine gate_builtin (b := .append) (xs := #[.tmp 38, .tmp 41]) rfl ?_); at_builtin; refine Kd.N_append_rows (Kd.slice 3 (Kd.int .i64)) (w0 := wq) wq.heap.size rfl (.tmp 38) (.tmp 41) 22 28 (.slice none 0 0) 24 rfl Try.underlying22 info_rowsU rfl (by decide) (by omega) (.slice (some ⟨wq.heap.size, 0, none⟩) 0 0) ([] : List (List Int)) (O.take j) _ _ _ (fun k => W.heap.size ≤ k) (fun k => W.heap.size ≤ k ∧ k < wo.heap.size) rfl rfl HE.out (Kd.F_alloc HFT.out _) (fun k hk => ⟨hk.1, fun e => by have := own_atT e; have := hk.2; omega⟩) (fun k hk => by have h : wq.heap.size ≤ k := Nat.le_trans (by simp) hk; omega) (below_alloc (Below.refl _ _) _) (by simp) (by simp only [List.length_nil]; omega) ?_; intro v7 w7 ho7 hb7 hg7 hat7; rw [List.nil_append] at ho7; have HN7 := Aside0.mk ho7; have HB7 := Aside0.mk hb7; clear ho7 hb7 hg7 hat7)
        | ((with_reducible refine gate_builtin (b := .append) (xs := #[.tmp 42, .tmp 44]) rfl ?_); at_builtin; refine Kd.N_append (Kd.slice 3 (Kd.int .i64)) (w0 := wq) wq.heap.size rfl (.tmp 42) (.tmp 44) 22 28 (.slice none 0 0) 24 rfl Try.underlying22 info_rowsU rfl (by decide) (by omega) v7 (O.take j) nx [.slice Ar nx.length cr] (fun k => W.heap.size ≤ k) (fun k => W.heap.size ≤ k ∧ k < w1.heap.size) rfl rfl (Kd.FK_slice_mk HCR.out (Kd.F_below HXQ.out HB7.out)) (fun k hk => ⟨hk.1, fun e => by have := Kd.N_base HN7.out k e.symm; have := hk.2; omega⟩) (fun k hk => by have := HB7.out.size; omega) HN7.out HB7.out HB7.out.size (by rw [List.length_take]; omega) ?_; intro v8 w8 ho8 hb8 hg8 hat8; have HN8 := Aside0.mk ho8; have HB8 := Aside0.mk hb8; clear ho8 hb8 hg8 hat8)
        | ((with_reducible refine gate_builtin (b := .append) (xs := #[.tmp 46, .tmp 49]) rfl ?_); at_builtin; refine Kd.N_append_rows (Kd.slice 3 (Kd.int .i64)) (w0 := wq) wq.heap.size rfl (.tmp 46) (.tmp 49) 22 28 (.slice none 0 0) 24 rfl Try.underlying22 info_rowsU rfl (by decide) (by omega) v8 (O.take j ++ [nx]) (O.drop j) _ _ _ (fun k => W.heap.size ≤ k) (fun k => W.heap.size ≤ k ∧ k < wo.heap.size) rfl rfl HN8.out (Kd.F_below HFD.out HB8.out) (fun k hk => ⟨hk.1, fun e => by have := Kd.N_base HN8.out k e.symm; have := hk.2; omega⟩) (fun k hk => by have := HB8.out.size; omega) HB8.out HB8.out.size (by rw [List.length_append, List.length_take]; simp only [List.length_cons, List.length_nil]; omega) ?_; intro v9 w9 ho9 hb9 hg9 hat9; have HN9 := Aside0.mk ho9; have HB9 := Aside0.mk hb9; clear ho9 hb9 hg9 hat9))
       go_roundg k3
       case measure => omega
       case rel => exact ⟨i + 1, _, by omega, by go_num, ⟨by have := HOL.out; simp [List.length_append, List.length_take, List.length_drop]; omega⟩, ⟨by have h := HT.out; exact h⟩, ⟨Kd.N_lower HN9.out (by omega)⟩, ⟨HBr.out.trans ((below_step HWQ.out HB9.out).mono hs1)⟩⟩
  ·have hz : ¬ (i : Int) < (L.length : Int) := by omega
   have hie : i = L.length := by omega
   subst hie
   rw [List.drop_length, tnL] at H
   obtain rfl := Option.some.inj H
   clear H HM
   go_wp2
   go_ret
   exact ⟨_, rfl, Kd.N_lower HN.out HSZ.out, HB1.out.trans (HBr.out.mono HSZ.out)⟩
end Go.Proofs.Ythbkjaieenochaa.L
