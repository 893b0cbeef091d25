/- Texts of one chain, in build order. -/
import Derived.Test.YthbkjaieenochaaYCountByPattern20
namespace Go.Proofs.Ythbkjaieenochaa.L
open Go.RowKit Go.Proofs.Ythbkjaieenochaa Go.Proofs.Ythbkjaieenochaa.P Go.Proofs.YthbkjaieenochaaW.PrintWords Go.Proofs.YthbkjaieenochaaW.PrintLast Go.Proofs.YthbkjaieenochaaW.PrintMore
set_option linter.unusedVariables false
set_option linter.unusedSimpArgs false

theorem info_tabsT : (Try.prog.info? 22).map (fun i => (i.zero, i.size, i.bytes)) = some (some (.slice none 0 0), 1, 24) := by kernel_rfl
mutual
def taL : Nat → List Int → List (List Int) → Int → List (List Int) → Option (List (List (List Int)))
  | 0, _, _, _, _ => none
  | k + 1, row, rows, n, L => match L with
    | [] => some []
    | nx :: rest => (spec_trStep.f 1000 row nx n).bind fun st => (taE k nx (rows ++ [st]) n).bind fun a => (taL k row rows n rest).bind fun b => some (a ++ b)
def taE : Nat → List Int → List (List Int) → Int → Option (List (List (List Int)))
  | 0, _, _, _ => none
  | k + 1, row, rows, n => if rows.length ≤ 100 ∧ row.length ≤ 100 then (if (row.length : Int) = n then some [rows] else (tnE row n).bind fun L => if L.length ≤ 1000 then taL k row rows n L else none) else none
end
/-- A list of tables comes back whose blocks are ok or new. -/
def RetNT (w : World) (ok : Nat → Prop) (L : List (List (List Int))) (e : Ending) (w' : World) : Prop := ∃ v : Value, e = .returned v ∧ Kd.N (Kd.slice 28 (Kd.slice 3 (Kd.int .i64))) 22 w' w.heap.size (fun k => ok k ∨ w.heap.size ≤ k) v L ∧ Below w.heap.size w w'
theorem one_NT {α : Type} {d : Kd α} {e e1 : Nat} {W : World} {ok okp : Nat → Prop} {x : List α} {u : Value} (hf : Kd.FK (Kd.slice e1 d) W okp x [u]) (hok : ∀ k, okp k → ok k) (hfr : ok W.heap.size) (hlt : ∀ k, okp k → k < W.heap.size) :
    Kd.N (Kd.slice e1 d) e (W.alloc (.cells #[u] e)) W.heap.size ok (.slice (some ⟨W.heap.size, 0, none⟩) 1 1) [x] := by
  have hb := below_alloc (Below.refl W.heap.size W) (.cells #[u] e)
  have hsz1 : (Kd.raw (Kd.slice e1 d).sz).sz = 1 := rfl
  refine ⟨fun k hk => ?_, [[u]], rfl, ⟨fun k hk => hk.symm, [u], ?_, ?_⟩, ?_⟩
  · have : W.heap.size = k := by simpa [Value.ownBlock] using hk
    exact this ▸ hfr
  · exact ⟨rfl, .inr ⟨W.heap.size, 1, #[u], rfl, Nat.le_refl _, blk_new W _, Nat.le_refl _, by unfold maxLen; omega, rfl, rfl⟩⟩
  · refine ⟨rfl, fun j c hj => ?_⟩
    rcases j with _ | j
    · obtain rfl := Option.some.inj hj
      exact ⟨rfl, rfl, (Kd.slice e1 d).K_one (Kd.FK_now hf)⟩
    · simp at hj
  · intro j y c hy hc
    rcases j with _ | j
    · obtain rfl := Option.some.inj hy
      obtain rfl := Option.some.inj hc
      exact Kd.FK_mono (Kd.FK_below hf hb) (fun k hk => ⟨hok k hk, fun e => by have h2 := hlt k hk; have : k = W.heap.size := by simpa [Value.ownBlock] using e
                                                                               omega⟩)
    · simp at hy
def okVT (W : World) (ok : Nat → Prop) (v : Value) : Nat → Prop := fun j => ((ok j ∧ j < W.heap.size) ∨ W.heap.size ≤ j) ∧ some j ≠ v.ownBlock
def okTT (W : World) (ok : Nat → Prop) : Nat → Prop := fun j => (ok j ∧ j < W.heap.size) ∨ W.heap.size ≤ j
set_option maxHeartbeats 4000000 in
set_option maxRecDepth 100000 in
theorem spec_trAll.callsG : ∀ (k : Nat) (row : List Int) (rows : List (List Int)) (n : Int) (X : List (List (List Int))) (Aw : Option Addr) (cw : Nat) (A : Option Addr) (c : Nat) (W : World) (ok : Nat → Prop), taE k row rows n = some X → X.length ≤ 1000000 →
    Kd.C (Kd.int .i64) W Aw row.length row → row.length ≤ cw → Kd.F (Kd.slice 3 (Kd.int .i64)) W ok A rows.length rows → rows.length ≤ c →
    Calls Try.prog 60 #[.slice Aw row.length cw, .slice A rows.length c, .int .i64 n] W (RetNT W ok X) := by
  intro k
  induction k using Nat.strongRecOn with
  | _ k ih =>
  intro row rows n X Aw cw A c W ok hX hXl hC hcw hF hc
  cases k with
  | zero => simp [taE] at hX
  | succ k =>
  rw [taE] at hX
  split at hX
  case isFalse => cases hX
  rename_i hsm
  have hrl := hsm.1
  have hsl := hsm.2
  have HF := Aside0.mk (Kd.F_bound hF)
  have HC := Aside0.mk (Kd.C_F (Kd.heap_int _) hC)
  have HCN := Aside0.mk hc
  have HCW := Aside0.mk hcw
  have HB := Aside0.mk (Below.refl W.heap.size W)
  clear hF hC hsm hc hcw
  split at hX
  · rename_i he
    have hez : ((row.length : Nat) : Int) = n := he
    obtain rfl := Option.some.inj hX
    have HE := Aside0.mk (show Kd.N (Kd.slice 3 (Kd.int .i64)) 28 (W.alloc (.cells #[] 28)) W.heap.size (okTT W ok) (.slice (some ⟨W.heap.size, 0, none⟩) 0 0) ([] : List (List Int)) from Kd.S_N (S_empty (blk_new W _) (Nat.le_refl _) (.inr (Nat.le_refl _))))
    clear hX he
    go_enter Try.func60, Try.ntmps60
    go_wp2_with ((with_reducible refine gate_builtin (b := .append) (xs := #[.tmp 14, .tmp 15]) rfl ?_); at_builtin; refine Kd.N_append_rows (Kd.slice 3 (Kd.int .i64)) (w0 := W) W.heap.size rfl (.tmp 14) (.tmp 15) 22 28 (.slice none 0 0) 24 rfl Try.underlying22 info_rowsU rfl (by decide) (by omega) (.slice (some ⟨W.heap.size, 0, none⟩) 0 0) ([] : List (List Int)) rows _ _ _ (okTT W ok) (fun k => ok k ∧ k < W.heap.size) rfl rfl HE.out (Kd.F_alloc HF.out _) (fun k hk => ⟨.inl hk, fun e => by have := own_atT e; have := hk.2; omega⟩) (fun k hk => .inr (Nat.le_trans (by simp) hk)) (below_alloc (Below.refl _ _) _) (by simp) (by simp only [List.length_nil]; omega) ?_; intro v7 w7 ho7 hb7 hg7 hat7; rw [List.nil_append] at ho7; obtain ⟨A7, c7, rfl⟩ := Kd.N_slice ho7; have HN7 := Aside0.mk ho7; have HB7 := Aside0.mk hb7; clear ho7 hb7 hg7 hat7)
    go_ret
    refine ⟨_, rfl, ?_, below_alloc HB7.out _⟩
    exact Kd.N_mono (Kd.N_lower (one_NT (okp := fun k => okTT W ok k ∧ k < w7.heap.size) (ok := okTT W ok) (Kd.FK_slice_mk (Kd.N_reads' HN7.out).2.1 (Kd.F_bound (Kd.N_F HN7.out))) (fun k hk => hk.1) (.inr HB7.out.size) (fun k hk => hk.2)) HB7.out.size) (fun k hk => hk.elim (fun h => .inl h.1) .inr)
  · rename_i he
    have hez : ¬ ((row.length : Nat) : Int) = n := he
    obtain ⟨L, hL, hX⟩ := Option.bind_eq_some_iff.1 hX
    split at hX
    case isFalse => cases hX
    rename_i hLl
    have HM := Aside0.mk hX
    have HR := Aside0.mk (fun W' (hb : Below W.heap.size W W') => spec_trNext.callsG row n L Aw cw W' hL (Kd.F_now (Kd.F_below HC.out hb)) HCW.out)
    have IH := Aside0.mk ih
    clear hX hL ih he
    go_enter Try.func60, Try.ntmps60
    go_wp2_with (go_at_call 91; refine (HR.out _ HB.out).mono ?_; rintro e w1 ⟨v1, rfl, hN, hb⟩; obtain ⟨Al, cl, rfl⟩ := Kd.N_slice hN; have HL := Aside0.mk (Kd.F_mono (ok' := fun j => W.heap.size ≤ j ∧ j < w1.heap.size) (Kd.F_bound (Kd.N_F hN)) (fun j hj => hj)); have HB1 := Aside0.mk hb; clear hN hb)
    have HSZ := Aside0.mk (show W.heap.size ≤ w1.heap.size from HB1.out.size)
    clear HR
    go_loopg [7, 22] k (fun kq s7 s22 wr => ∃ (i : Nat) (X2 Y : List (List (List Int))), i ≤ L.length ∧ s22 = .int .i64 i ∧ Aside0 (taL kq row rows n (L.drop i) = some Y) ∧ Aside0 (kq ≤ k) ∧ Aside0 (X2 ++ Y = X) ∧ Aside0 (Kd.N (Kd.slice 28 (Kd.slice 3 (Kd.int .i64))) 22 wr w1.heap.size (okTT W ok) s7 X2) ∧ Aside0 (Below w1.heap.size w1 wr))
    case atStart => exact ⟨0, [], X, Nat.zero_le _, rfl, HM, ⟨Nat.le_refl _⟩, ⟨rfl⟩, ⟨Kd.N_nil _ _ _ _ _⟩, ⟨Below.refl _ _⟩⟩
    case round =>
      clear HM
      obtain ⟨i, X2, Y, hi, rfl, HM, HK, HX, HN, HBr⟩ := hrel
      cases gk with
      | zero => exact absurd HM.out (by simp [taL])
      | succ k3 =>
      have H := HM.out
      by_cases hlt : i < L.length
      · have hz : (i : Int) < (L.length : Int) := by omega
        obtain ⟨r, hr⟩ : ∃ r, r = L[i] := ⟨_, rfl⟩
        rw [List.drop_eq_getElem_cons hlt, ← hr, taL] at H
        obtain ⟨st, hst, H⟩ := Option.bind_eq_some_iff.1 H
        obtain ⟨a, ha, H⟩ := Option.bind_eq_some_iff.1 H
        obtain ⟨b2, hb2, H⟩ := Option.bind_eq_some_iff.1 H
        obtain rfl := Option.some.inj H
        obtain ⟨ad, cc, hA, hcl1, hFK, hcell, _⟩ := Kd.F_get HL.out ([] : List Int) (i : Int) (by omega) (by omega)
        subst hA
        obtain ⟨Ar, cr, rfl, hcr, hFx⟩ := Kd.FK_slice_open hFK
        have hx := hcell 0 _ rfl
        rw [Int.toNat_natCast, show (Kd.slice 3 (Kd.int .i64)).sz = 1 from rfl, Nat.mul_one, Nat.add_zero] at hx
        have hge : L.getD i [] = r := by rw [hr, List.getD_eq_getElem?_getD, List.getElem?_eq_getElem hlt]; rfl
        rw [Int.toNat_natCast, hge] at hcr hFx
        rw [hge] at hx
        replace hx := pw_cell_below HBr.out hx
        have HXF := Aside0.mk hFx
        have HCR := Aside0.mk hcr
        have HA := Aside0.mk ha
        have HB2 := Aside0.mk hb2
        have HBo := Aside0.mk (HB1.out.trans (HBr.out.mono HSZ.out))
        have HST := Aside0.mk (fun W' (hb : Below wr.heap.size wr W') => spec_trStep.calls 1000 Aw cw row Ar cr r n st W' (Kd.F_now (Kd.F_below HC.out (HBo.out.trans (hb.mono HBo.out.size)))) HCW.out (Kd.F_now (Kd.F_below HXF.out (HBr.out.trans (hb.mono HBr.out.size)))) HCR.out hst)
        have hlt5 := Kd.N_lt HN.out
        have hsz1 := HBr.out.size
        have HFV := Aside0.mk (show ∀ j, wr.heap.size ≤ j → okVT W ok u7 j from fun j hj => ⟨.inr (by have := HSZ.out; omega), fun e => by have := hlt5 j e.symm; omega⟩)
        have HE := Aside0.mk (show Kd.N (Kd.slice 3 (Kd.int .i64)) 28 (wr.alloc (.cells #[] 28)) wr.heap.size (okVT W ok u7) (.slice (some ⟨wr.heap.size, 0, none⟩) 0 0) ([] : List (List Int)) from Kd.S_N (S_empty (blk_new wr _) (Nat.le_refl _) (HFV.out _ (Nat.le_refl _))))
        have HRW := Aside0.mk (Kd.F_below HF.out (HBo.out.trans ((below_alloc (Below.refl wr.heap.size wr) (.cells #[] 28)).mono (by have := HSZ.out; omega))))
        have HOK := Aside0.mk (show ∀ j, (ok j ∧ j < W.heap.size) → okVT W ok u7 j ∧ some j ≠ (Value.slice (some ⟨wr.heap.size, 0, none⟩) 0 0).ownBlock from fun j hj => ⟨⟨.inl hj, fun e => by have := Kd.N_base HN.out j e.symm; have := hj.2; have := HSZ.out; omega⟩, fun e => by have h1 := hj.2; have h2 := own_atT e; have := HSZ.out; omega⟩)
        have HXA := Aside0.mk (show (X2 ++ a).length + b2.length ≤ 1000000 by have h1 := hXl; rw [← HX.out, List.length_append, List.length_append] at h1; rw [List.length_append]; omega)
        clear HM H ha hb2 hFK hcell hcl1 hcr hFx hge hr hst hXl
        go_wp2_with (first
          | ((with_reducible refine gate_builtin (b := .append) (xs := #[.tmp 28, .tmp 29]) rfl ?_); at_builtin; refine Kd.N_append_rows (Kd.slice 3 (Kd.int .i64)) (w0 := wr) wr.heap.size rfl (.tmp 28) (.tmp 29) 22 28 (.slice none 0 0) 24 rfl Try.underlying22 info_rowsU rfl (by decide) (by omega) (.slice (some ⟨wr.heap.size, 0, none⟩) 0 0) ([] : List (List Int)) rows _ _ _ (okVT W ok u7) (fun k => ok k ∧ k < W.heap.size) rfl rfl HE.out HRW.out HOK.out (fun j hj => HFV.out j (Nat.le_trans (by simp) hj)) (below_alloc (Below.refl _ _) _) (by simp) (by simp only [List.length_nil]; omega) ?_; intro v7 w7 ho7 hb7 hg7 hat7; rw [List.nil_append] at ho7; have HN7 := Aside0.mk ho7; have HB7 := Aside0.mk hb7; clear ho7 hb7 hg7 hat7)
          | (go_at_call 92; refine (HST.out _ HB7.out).mono ?_; rintro e w2 ⟨v2, rfl, hR, hb⟩; obtain ⟨A2, c2, rfl⟩ := Kd.R_slice hR; have HR2 := Aside0.mk (Kd.F_mono (ok' := fun j => w7.heap.size ≤ j ∧ j < w2.heap.size) (Kd.R_F (Kd.R_bound hR)) (fun j hj => ⟨hj.2.1, hj.2.2.1⟩)); have HR2c := Aside0.mk (Kd.R_reads' hR).2.1; have HN2 := Aside0.mk (Kd.N_below (Kd.N_bound HN7.out) hb); have HB8 := Aside0.mk (HB7.out.trans (hb.mono HB7.out.size)); have SZ7 := Aside0.mk HB7.out.size; have SZ2 := Aside0.mk hb.size; have LT7 := Aside0.mk (Kd.N_lt HN7.out); clear hR hb)
          | ((with_reducible refine gate_builtin (b := .append) (xs := #[.tmp 30, .tmp 35]) rfl ?_); at_builtin; refine Kd.N_append (Kd.slice 3 (Kd.int .i64)) (w0 := wr) wr.heap.size rfl (.tmp 30) (.tmp 35) 22 28 (.slice none 0 0) 24 rfl Try.underlying22 info_rowsU rfl (by decide) (by omega) v7 rows st [.slice A2 st.length c2] (okVT W ok u7) (fun j => w7.heap.size ≤ j ∧ j < w2.heap.size) rfl rfl (Kd.FK_slice_mk HR2c.out HR2.out) (fun j hj => ⟨HFV.out j (Nat.le_trans SZ7.out hj.1), fun e => by have := LT7.out j e.symm; have := hj.1; omega⟩) (fun j hj => HFV.out j (Nat.le_trans HB8.out.size hj)) (Kd.N_mono HN2.out (fun j hj => hj.1)) HB8.out HB8.out.size (by omega) ?_; intro v8 w8 ho8 hb8 hg8 hat8; obtain ⟨R9, hR9⟩ : ∃ z, z = rows ++ [st] := ⟨_, rfl⟩; rw [← hR9] at ho8 HA; obtain ⟨A9, c9, rfl⟩ := Kd.N_slice ho8; have HN8 := Aside0.mk ho8; have HB9 := Aside0.mk hb8; clear ho8 hb8 hg8 hat8 hR9)
          | (go_at_call 60; have hh := IH.out k3 (by have := HK.out; omega) r R9 n a Ar cr A9 c9 w8 (okVT W ok u7) HA.out (by have := HXA.out; rw [List.length_append] at this; omega) (Kd.F_now (Kd.F_below HXF.out (HBr.out.trans (HB9.out.mono hsz1)))) HCR.out (Kd.N_F HN8.out) (Kd.N_reads' HN8.out).2.1; refine hh.mono ?_; rintro e w9 ⟨v9, rfl, hN9, hb9⟩; obtain ⟨A53, c53, rfl⟩ := Kd.N_slice hN9; have HN9 := Aside0.mk hN9; have HBA := Aside0.mk (HB9.out.trans (hb9.mono HB9.out.size)); have SZ8 := Aside0.mk HB9.out.size; clear hN9 hb9 hh)
          | ((with_reducible refine gate_builtin (b := .append) (xs := #[.tmp 26, .tmp 38]) rfl ?_); at_builtin; refine Kd.N_append_rows (Kd.slice 28 (Kd.slice 3 (Kd.int .i64))) (w0 := w1) w1.heap.size rfl (.tmp 26) (.tmp 38) 39 22 (.slice none 0 0) 24 rfl Try.underlying39 info_tabsT rfl (by decide) (by omega) u7 X2 a _ _ _ (okTT W ok) (okVT W ok u7) rfl rfl (Kd.N_mono (Kd.N_below (Kd.N_bound HN.out) HBA.out) (fun k hk => hk.1)) (Kd.N_F (Kd.N_mono HN9.out (fun j hj => hj.elim id (fun h => HFV.out j (Nat.le_trans SZ8.out h))))) (fun _ h => h) (fun j hj => .inr (by have := HBA.out.size; have := HSZ.out; omega)) (HBr.out.trans (HBA.out.mono hsz1)) (by have := HBA.out.size; omega) (by have := HXA.out; rw [List.length_append] at this; omega) ?_; intro v10 w10 ho10 hb10 hg10 hat10; have HN10 := Aside0.mk ho10; have HB10 := Aside0.mk hb10; clear ho10 hb10 hg10 hat10))
        go_roundg k3
        case measure => have := HK.out; omega
        case rel => exact ⟨i + 1, X2 ++ a, b2, by omega, by go_num, HB2, ⟨by have := HK.out; omega⟩, ⟨by rw [List.append_assoc]; exact HX.out⟩, HN10, HB10⟩
      · have hz : ¬ (i : Int) < (L.length : Int) := by omega
        have hie : i = L.length := by omega
        subst hie
        rw [List.drop_length, taL] at H
        obtain rfl := Option.some.inj H
        have HX3 := Aside0.mk (show X2 = X by have := HX.out; rwa [List.append_nil] at this)
        clear H HM
        go_wp2
        go_ret
        exact ⟨_, rfl, by rw [← HX3.out]; exact Kd.N_lower (Kd.N_mono HN.out (fun k hk => hk.imp (fun h => h.1) id)) HSZ.out, HB1.out.trans (HBr.out.mono HSZ.out)⟩
end Go.Proofs.Ythbkjaieenochaa.L

namespace Go.Proofs.Ythbkjaieenochaa
open Go.RowKit Go.Proofs.Ythbkjaieenochaa.P Go.Proofs.Ythbkjaieenochaa.L Go.Proofs.YthbkjaieenochaaW.PrintWords Go.Proofs.YthbkjaieenochaaW.PrintLast Go.Proofs.YthbkjaieenochaaW.PrintMore
set_option linter.unusedVariables false
set_option maxRecDepth 100000

def srX (n : Nat) : List (List Int) := (srE 100 n [] 0).getD []
def esX (n : Nat) : List (List (List Int)) := (esE 1000 n (srX n) [] (List.replicate n 0)).getD []
def EsOk (n : Nat) : Prop := srE 100 n [] 0 = some (srX n) ∧ (srX n).length ≤ 1000 ∧ esE 1000 n (srX n) [] (List.replicate n 0) = some (esX n)
theorem es_1 : EsOk 1 := by unfold EsOk; decide +kernel
theorem es_2 : EsOk 2 := by unfold EsOk; decide +kernel
theorem es_3 : EsOk 3 := by unfold EsOk; decide +kernel
theorem es_4 : EsOk 4 := by unfold EsOk; decide +kernel
theorem es_5 : EsOk 5 := by unfold EsOk; decide +kernel
theorem es_all {n : Nat} (h0 : 1 ≤ n) (h1 : n ≤ 4) : EsOk n := by
 have e : n = 1 ∨ n = 2 ∨ n = 3 ∨ n = 4 := by omega
 rcases e with rfl | rfl | rfl | rfl
 ·exact es_1
 ·exact es_2
 ·exact es_3
 ·exact es_4
theorem ta_1 : taE 1000 [] [] 1 = some (esX 1) := by decide +kernel
theorem ta_2 : taE 1000 [] [] 2 = some (esX 2) := by decide +kernel
theorem ta_3 : taE 1000 [] [] 3 = some (esX 3) := by decide +kernel
theorem ta_4 : taE 1000 [] [] 4 = some (esX 4) := by decide +kernel
theorem ta_5 : taE 1000 [] [] 5 = some (esX 5) := by decide +kernel
end Go.Proofs.Ythbkjaieenochaa

namespace Go.Proofs.Ythbkjaieenochaa
open Go.RowKit Go.Proofs.Ythbkjaieenochaa.P Go.Proofs.Ythbkjaieenochaa.L Go.Proofs.YthbkjaieenochaaW.PrintWords Go.Proofs.YthbkjaieenochaaW.PrintLast Go.Proofs.YthbkjaieenochaaW.PrintMore
set_option linter.unusedVariables false
set_option maxRecDepth 100000

theorem eachSigns_of {n : Nat} (hn : n ≤ 100) (h : EsOk n) : EachSigns n (esX n) := fun g lb w St hSt eg hf ok hst =>
 impl_eachSigns.callsG n hn (srX n) g lb w (fun w => impl_signRows.callsG n 100 (srX n) w h.1 (by omega) (by have := h.2.1; omega)) St hSt h.2.1 (esX n) eg hf 1000 h.2.2 (by omega) ok hst
theorem eachSigns_all {n : Nat} (h0 : 1 ≤ n) (h1 : n ≤ 4) : EachSigns n (esX n) := eachSigns_of (by omega) (es_all h0 h1)
theorem eachSigns_5 : EachSigns 5 (esX 5) := eachSigns_of (by omega) es_5
end Go.Proofs.Ythbkjaieenochaa

namespace Go.Proofs.Ythbkjaieenochaa.P
open Go.RowKit Go.Proofs.YthbkjaieenochaaW.PrintWords Go.Proofs.YthbkjaieenochaaW.PrintLast Go.Proofs.YthbkjaieenochaaW.PrintMore
attribute [local go_sem] max2_int min2_int max_two min_two max_three min_three max_four min_four   -- for this text's walks alone
set_option linter.unusedVariables false
set_option linter.unusedSimpArgs false

def spec_l1In.f (a0 : Int) (a1 : Int) (a2 : Int) : Option (Bool) := if a0 ≥ a1 then (some (decide (a0 ≤ a2))) else (some false)
set_option maxHeartbeats 8000000 in
set_option maxRecDepth 100000 in
theorem spec_l1In.calls (a0 : Int) (a1 : Int) (a2 : Int) (r : Bool) (w : World) (h : spec_l1In.f a0 a1 a2 = some r) :
  Calls Try.prog 48 #[.int .i64 a0, .int .i64 a1, .int .i64 a2] w fun e w' => e = .returned (.bool r) ∧ Drawn0 w w' := by
 have H : (if a0 ≥ a1 then (some (decide (a0 ≤ a2))) else (some false)) = some r := h
 clear h
 by_cases c4 : a0 ≥ a1
 ·rw [if_pos c4] at H
  have c4b0 : decide (a1 ≤ a0) = true := decide_eq_true c4
  clear c4
  obtain rfl := Option.some.inj H
  go_enter Try.func48, Try.ntmps48
  go_wp2
  go_ret
  exact ⟨by first | rfl | (simp; done) | (simp [*]; done), by repeat (first | exact Drawn0.refl _ | apply Drawn0.step)⟩
 ·rw [if_neg c4] at H
  have c4b0 : decide (a1 ≤ a0) = false := decide_eq_false c4
  clear c4
  obtain rfl := Option.some.inj H
  go_enter Try.func48, Try.ntmps48
  go_wp2
  go_ret
  exact ⟨by first | rfl | (simp; done) | (simp [*]; done), by repeat (first | exact Drawn0.refl _ | apply Drawn0.step)⟩

end Go.Proofs.Ythbkjaieenochaa.P

namespace Go.Proofs.Ythbkjaieenochaa
open Go.RowKit Go.Proofs.YthbkjaieenochaaW.PrintWords Go.Proofs.YthbkjaieenochaaW.PrintLast Go.Proofs.YthbkjaieenochaaW.PrintMore
set_option linter.unusedVariables false
set_option linter.unusedSimpArgs false

def bitI (b : Bool) : Int := if b then 1 else 0
theorem impl_bit.calls' (b : Bool) (w : World) :
  Calls Try.prog 84 #[.bool b] w fun e w' => e = .returned (.int .i64 (bitI b)) ∧ w = w' := by
 cases b with
 | true =>
  go_enter Try.func84, Try.ntmps84
  go_wp2
  go_ret
  exact ⟨rfl, rfl⟩
 | false =>
  go_enter Try.func84, Try.ntmps84
  go_wp2
  go_ret
  exact ⟨rfl, rfl⟩
/-- The edges across and down, at places, and as tables. -/
def acF (m : List (List Int)) (i j : Nat) : Int := bitI ((ps (m.getD i []) j + i + j) % 2 == 0)
def dnF (m : List (List Int)) (i j : Nat) : Int := bitI ((ps (colL m j) i + i + j) % 2 == 1)
def acM (m : List (List Int)) : List (List Int) := tableL (acF m) m.length (m.length + 1)
def dnM (m : List (List Int)) : List (List Int) := tableL (dnF m) (m.length + 1) m.length

set_option maxHeartbeats 4000000 in
theorem loops_1.calls (l0 : List (List Int)) (i j b : Nat) (A0 : Option Addr) (c0 : Nat) (W : World) (hs : isSign l0 = true) (hi : i < l0.length) (hj : j < l0.length + 1)
  (hr0 : Kd.C (Kd.slice 3 (Kd.int .i64)) W A0 l0.length l0) (hc0 : l0.length ≤ c0) (hx0 : W.cell? ⟨b, 0, none⟩ = some (.slice A0 l0.length c0)) :
  Gives Try.prog 83 #[.int .i64 i, .int .i64 j, .pointer (some ⟨b, 0, none⟩)] W (.int .i64 (acF l0 i j)) := by
 unfold Gives
 obtain ⟨h1, h2, h3, h4⟩ := isSign_facts hs
 obtain ⟨ad, A1, c1, e0, hx, hc1, hrow⟩ := rowsAt hr0 i hi
 cases e0
 have hrl := h3 i hi
 have hsr := sumW_take (h4 i hi).1 (j := j) (by omega)
 have hps := alt_ps (h4 i hi).1 (j := j) (by omega)
 have hsum := fun W' hb => impl_sum.calls' A1 c1 ((l0.getD i []).take j) W' (Kd.C_below (Kd.C_take hrow (by omega)) hb)
 rw [hsr] at hsum
 have htl : ((l0.getD i []).take j).length = j := by rw [List.length_take]; omega
 rw [htl] at hsum
 have HK := Aside0.mk (show acF l0 i j = bitI ((ps (l0.getD i []) j + i + j) % 2 == 0) from rfl)
 obtain ⟨row, hrw⟩ : ∃ r, r = l0.getD i [] := ⟨_, rfl⟩
 rw [← hrw] at hx hsum HK hps hc1 hrl
 obtain ⟨p, hp⟩ : ∃ x, x = ps row j := ⟨_, rfl⟩
 rw [← hp] at hsum HK hps
 have hiz : (i : Int) < (l0.length : Int) := by omega
 have hjc : j ≤ c1 := by omega
 have HB0 := Aside0.mk (Below.refl W.heap.size W)
 obtain ⟨hp0, hp1⟩ := hps
 have hi6 : (i : Int) ≤ 10 := by omega
 have hj6 : (j : Int) ≤ 10 := by omega
 have hbit := fun W' => impl_bit.calls' ((p + i + j) % 2 == 0) W'
 rw [HK.out]
 clear hrw hp hrow hr0 h1 h3 h4 hsr htl hs hrl HK
 go_enter Try.func83, Try.ntmps83
 go_wp2_with (first | (go_at_call 85; refine (hsum _ HB0.out).mono ?_; rintro e w1 ⟨rfl, rfl⟩) | (go_at_call 84; refine (hbit _).mono ?_; rintro e w1 ⟨rfl, rfl⟩))
 go_ret
 exact ⟨rfl, HB0.out⟩
set_option maxHeartbeats 4000000 in
theorem loops_2.calls (l0 : List (List Int)) (i j b : Nat) (A0 : Option Addr) (c0 : Nat) (W : World) (hs : isSign l0 = true) (hi : i < l0.length + 1) (hj : j < l0.length)
  (hr0 : Kd.C (Kd.slice 3 (Kd.int .i64)) W A0 l0.length l0) (hc0 : l0.length ≤ c0) (hx0 : W.cell? ⟨b, 0, none⟩ = some (.slice A0 l0.length c0)) :
  Gives Try.prog 86 #[.int .i64 i, .int .i64 j, .pointer (some ⟨b, 0, none⟩)] W (.int .i64 (dnF l0 i j)) := by
 unfold Gives
 obtain ⟨h1, h2, h3, h4⟩ := isSign_facts hs
 have hcl := colL_length l0 j
 have hsc := sumW_take (h4 j hj).2 (j := i) (by omega)
 have hpc := alt_ps (h4 j hj).2 (j := i) (by omega)
 have hcol := fun W' hb => impl_column.calls' A0 c0 l0 j W' (Kd.C_below hr0 hb) (by omega) (fun k hk => by rw [h3 k hk]; exact hj)
 have HK := Aside0.mk (show dnF l0 i j = bitI ((ps (colL l0 j) i + i + j) % 2 == 1) from rfl)
 have HC := Aside0.mk (show i ≤ (colL l0 j).length by omega)
 obtain ⟨q, hq⟩ : ∃ x, x = ps (colL l0 j) i := ⟨_, rfl⟩
 rw [← hq] at hsc HK hpc
 have HB0 := Aside0.mk (Below.refl W.heap.size W)
 have HSC := Aside0.mk hsc
 obtain ⟨hq0, hq1⟩ := hpc
 have hi6 : (i : Int) ≤ 10 := by omega
 have hj6 : (j : Int) ≤ 10 := by omega
 have hbit := fun W' => impl_bit.calls' ((q + i + j) % 2 == 1) W'
 rw [HK.out]
 clear hq hr0 h1 h3 h4 hs hcl hsc HK
 go_enter Try.func86, Try.ntmps86
 go_wp2_with (first | (go_at_call 82; refine (hcol _ HB0.out).mono ?_; rintro e w2 ⟨v, rfl, hR, hb⟩; have HB2 := Aside0.mk hb; obtain ⟨A2, c2, rfl⟩ := Kd.R_slice hR; have hq := Kd.R_reads' hR; have hsum2 := impl_sum.calls' A2 c2 ((colL l0 j).take i) w2 (Kd.C_take hq.2.2 HC.out); rw [HSC.out, List.length_take, Nat.min_eq_left HC.out] at hsum2; have hcc := hq.2.1; have hic := HC.out; have hicc : i ≤ c2 := (by omega); clear hR hb hq) | (go_at_call 85; refine hsum2.mono ?_; rintro e w1 ⟨rfl, rfl⟩) | (go_at_call 84; refine (hbit _).mono ?_; rintro e w1 ⟨rfl, rfl⟩))
 go_ret
 exact ⟨rfl, HB2.out⟩
def impl_loops.f (l0 : List (List Int)) : Option (Int × List (List Int) × List (List Int)) := if isSign l0 = true then some ((l0.length : Int), acM l0, dnM l0) else none
theorem blk_newA {w : World} {o : Obj} {g : Nat} (h : g = w.heap.size) : (w.alloc o).heap[g]? = some o := h ▸ blk_new w o
/-- Two tables, one made behind the other, share no block. -/
theorem two_S {W W' : World} {B B' : Nat} {A1 A2 : Option Addr} {n1 n2 c1 c2 : Nat} {T U : List (List Int)} (h : Kd.S (Kd.slice 3 (Kd.int .i64)) 28 W B (fun _ => True) (.slice A1 n1 c1) T) (hb : Below W.heap.size W W') (k : Kd.S (Kd.slice 3 (Kd.int .i64)) 28 W' B' (fun _ => True) (.slice A2 n2 c2) U) (hB : B ≤ B') (hW : W.heap.size ≤ B') :
  Kd.S (Kd.slice 3 (Kd.int .i64)) 28 W' B (fun k_ => some k_ ≠ (Value.slice A2 n2 c2).ownBlock) (.slice A1 n1 c1) T ∧
   Kd.S (Kd.slice 3 (Kd.int .i64)) 28 W' B (fun k_ => some k_ ≠ (Value.slice A1 n1 c1).ownBlock) (.slice A2 n2 c2) U := by
 have h1 := Kd.S_bound h
 refine ⟨Kd.S_mono (Kd.S_below h1 hb) (fun q hq e => ?_), Kd.S_lower (Kd.S_mono (Kd.S_bound k) (fun q hq e => ?_)) hB⟩
 ·have := Kd.S_base k q e.symm
  have := hq.2.2.1
  omega
 ·have := Kd.S_lt h q e.symm
  have := hq.2.1
  omega
theorem S_far3 {α : Type} {d : Kd α} {e B b g : Nat} {W : World} {ok : Nat → Prop} {v : Value} {xs : List α} (h : Kd.S d e W B ok v xs) (hb : b ≤ B) (hg : g < B) (u0 u1 u2 : Value) : Kd.S d e (((W.setCell ⟨g, 0, none⟩ u0).setCell ⟨g, 1, none⟩ u1).setCell ⟨g, 2, none⟩ u2) b ok v xs := by
 have h1 := Kd.S_mono (ok' := fun k => ok k ∧ k ≠ g) (Kd.S_bound h) (fun k hk => ⟨hk.1, by have := hk.2.1; omega⟩)
 exact Kd.S_mono (Kd.S_lower (Kd.S_far (p := ⟨g, 2, none⟩) (Kd.S_far (p := ⟨g, 1, none⟩) (Kd.S_far (p := ⟨g, 0, none⟩) h1 (fun _ hk => hk.2) _) (fun _ hk => hk.2) _) (fun _ hk => hk.2) _) hb) (fun _ hk => hk.1)
set_option maxHeartbeats 4000000 in
theorem impl_loops.calls (A0 : Option Addr) (c0 : Nat) (l0 : List (List Int)) (r1 : Int) (r2 : List (List Int)) (r3 : List (List Int)) (w : World) (hr0 : Kd.C (Kd.slice 3 (Kd.int .i64)) w A0 l0.length l0) (hc0 : l0.length ≤ c0) (h : impl_loops.f l0 = some (r1, r2, r3)) :
  Calls Try.prog 46 #[.slice A0 l0.length c0] w fun e w' => ∃ v1_ v2_ : Value, e = .returned (.agg #[.int .i64 r1, v1_, v2_]) ∧ Kd.S (Kd.slice 3 (Kd.int .i64)) 28 w' w.heap.size (fun k_ => some k_ ≠ (v2_ : Value).ownBlock) v1_ r2 ∧ Kd.S (Kd.slice 3 (Kd.int .i64)) 28 w' w.heap.size (fun k_ => some k_ ≠ (v1_ : Value).ownBlock) v2_ r3 ∧ Below w.heap.size w w' := by
 unfold impl_loops.f at h
 by_cases hs : isSign l0 = true
 case neg => rw [if_neg hs] at h; cases h
 rw [if_pos hs] at h
 simp only [Option.some.injEq, Prod.mk.injEq] at h
 obtain ⟨rfl, rfl, rfl⟩ := h
 have eg1 : ∀ args w, (callFunc 83 args).run Try.prog w = .ok (.enter 83 args) w := enters_of Try.func83 (by kernel_rfl) rfl
 have eg2 : ∀ args w, (callFunc 86 args).run Try.prog w = .ok (.enter 86 args) w := enters_of Try.func86 (by kernel_rfl) rfl
 obtain ⟨W1, hW1⟩ : ∃ W1, W1 = (w.alloc (.cells #[.slice A0 l0.length c0] 22)).alloc (.cells #[.int .i64 0, .slice none 0 0, .slice none 0 0] 50) := ⟨_, rfl⟩
 have hB1 : Below w.heap.size w W1 := by rw [hW1]; exact below_alloc (below_alloc (Below.refl _ _) _) _
 have hx : W1.cell? ⟨w.heap.size, 0, none⟩ = some (.slice A0 l0.length c0) := by rw [hW1]; exact blk_cell (blk_alloc (blk_newA rfl) _) 0
 have hy : W1.heap[w.heap.size + 1]? = some (.cells #[.int .i64 0, .slice none 0 0, .slice none 0 0] 50 (0, 0)) := by rw [hW1]; exact blk_newA (by simp)
 have h2 := (isSign_facts hs).2.1
 have hC1 := Kd.C_below hr0 hB1
 have HW1 := Aside0.mk hW1
 have HB1 := Aside0.mk hB1
 have HY := Aside0.mk hy
 have HN1 := Aside0.mk (show ((l0.length : Int) + 1) = ((l0.length + 1 : Nat) : Int) by omega)
 have HSZ := Aside0.mk (show W1.heap.size = w.heap.size + 1 + 1 by rw [hW1]; simp)
 have HT1 := Aside0.mk (impl_tableC.calls 83 #[.pointer (some ⟨w.heap.size, 0, none⟩)] (acF l0) l0.length (l0.length + 1) W1 (by omega) (by omega) eg1
  (fun i j W hi hj hb => loops_1.calls l0 i j _ A0 c0 W hs hi hj (Kd.C_below hC1 hb) hc0 (pw_cell_below hb hx)))
 have HT2 := Aside0.mk (fun (w2 : World) (hb2 : Below W1.heap.size W1 w2) => impl_tableC.calls 86 #[.pointer (some ⟨w.heap.size, 0, none⟩)] (dnF l0) (l0.length + 1) l0.length w2 (by omega) (by omega) eg2
  (fun i j W hi hj hb => loops_2.calls l0 i j _ A0 c0 W hs hi hj (Kd.C_below (Kd.C_below hC1 hb2) hb) hc0 (pw_cell_below hb (pw_cell_below hb2 hx))))
 have hn6 : (l0.length : Int) ≤ 10 := by omega
 clear hr0 hs hB1 hC1 hW1 hy
 go_enter Try.func46, Try.ntmps46
 go_wp2_with (first
  | (go_at_call 54; rw [← HW1.out]; have h_ := HT1.out; rw [← HN1.out] at h_; refine h_.mono ?_; clear h_; rintro e w2 ⟨v1, rfl, hS1, hb1⟩; obtain ⟨A1, c1, rfl⟩ := Kd.R_slice (Kd.S_R hS1); have HS1 := Aside0.mk hS1; have HB2 := Aside0.mk hb1; have HT3 := Aside0.mk (HT2.out w2 hb1); clear HT1 hS1 hb1)
  | (go_at_call 54; have h_ := HT3.out; rw [← HN1.out] at h_; refine h_.mono ?_; clear h_; rintro e w3 ⟨v2, rfl, hS2, hb2⟩; obtain ⟨A2, c2, rfl⟩ := Kd.R_slice (Kd.S_R hS2); have HS2 := Aside0.mk hS2; have HB3 := Aside0.mk hb2; have HY3 := Aside0.mk (blk_below (blk_below HY.out HB2.out) hb2); clear HT3 hS2 hb2; have hk0 := blk_cell HY3.out 0; have hk1 := blk_cell HY3.out 1; have hk2 := blk_cell HY3.out 2; have hf0 := blk_frozen HY3.out 0; have hf1 := blk_frozen HY3.out 1; have hf2 := blk_frozen HY3.out 2))
 refine bodyPost_ret (results_cell_row rfl _ _ (w.heap.size + 1) 50 #[.int .i64 (l0.length : Int), .slice A1 (acM l0).length c1, .slice A2 (dnM l0).length c2] (0, 0) _ rfl (by
  refine blk_put (cs := #[.int .i64 (l0.length : Int), .slice A1 (acM l0).length c1, .slice none 0 0]) ?_ 2 _ rfl
  refine blk_put (cs := #[.int .i64 (l0.length : Int), .slice none 0 0, .slice none 0 0]) ?_ 1 _ rfl
  refine blk_put (cs := #[.int .i64 0, .slice none 0 0, .slice none 0 0]) ?_ 0 _ rfl
  exact HY3.out) Try.underlying50 rfl (by kernel_rfl)) rfl ?_
 obtain ⟨k1, k2⟩ := two_S HS1.out HB3.out HS2.out HB2.out.size (Nat.le_refl _)
 have hz := HSZ.out
 exact ⟨_, _, rfl, S_far3 k1 (by omega) (by omega) _ _ _, S_far3 k2 (by omega) (by omega) _ _ _, Below.setCell (Below.setCell (Below.setCell (below_step (below_step HB1.out HB2.out) HB3.out) (by show _ ≤ w.heap.size + 1; omega) _) (by show _ ≤ w.heap.size + 1; omega) _) (by show _ ≤ w.heap.size + 1; omega) _⟩
end Go.Proofs.Ythbkjaieenochaa

namespace Go.Proofs.Ythbkjaieenochaa.LN
set_option linter.unusedVariables false
set_option linter.unusedSimpArgs false

/-- Is the edge of a point at a side drawn? a: the edges across, d: the edges down. -/
def drw (a d : Int → Int → Int) (i j s : Int) : Bool := if s = 0 then d i j == 1 else if s = 1 then a i (j + 1) == 1 else if s = 2 then d (i + 1) j == 1 else a i j == 1
/-- The side at which a line that comes in at s goes out. -/
def exq (a d : Int → Int → Int) (i j s : Int) : Int := if s ≠ 0 ∧ drw a d i j 0 = true then 0 else if s ≠ 1 ∧ drw a d i j 1 = true then 1 else if s ≠ 2 ∧ drw a d i j 2 = true then 2 else 3
def mi (i e : Int) : Int := if e = 0 then i - 1 else if e = 2 then i + 1 else i
def mj (j e : Int) : Int := if e = 1 then j + 1 else if e = 3 then j - 1 else j
def op (s : Int) : Int := (s + 2) % 4
def ing (n i j : Int) : Bool := decide (0 ≤ i) && decide (i < n) && (decide (0 ≤ j) && decide (j < n))
theorem ing_iff {n i j : Int} : ing n i j = true ↔ 0 ≤ i ∧ i < n ∧ 0 ≤ j ∧ j < n := by
 unfold ing; simp only [Bool.and_eq_true, decide_eq_true_eq]; omega
def b2 (b : Bool) : Nat := if b then 1 else 0
/-- Each point has two edges drawn. -/
def Good (a d : Int → Int → Int) (n : Int) : Prop := ∀ i j, ing n i j = true → b2 (drw a d i j 0) + b2 (drw a d i j 1) + b2 (drw a d i j 2) + b2 (drw a d i j 3) = 2
abbrev St := Int × Int × Int
def step (a d : Int → Int → Int) (x : St) : St := (mi x.1 (exq a d x.1 x.2.1 x.2.2), mj x.2.1 (exq a d x.1 x.2.1 x.2.2), op (exq a d x.1 x.2.1 x.2.2))
def bck (a d : Int → Int → Int) (y : St) : St := (mi y.1 y.2.2, mj y.2.1 y.2.2, exq a d (mi y.1 y.2.2) (mj y.2.1 y.2.2) (op y.2.2))
/-- A point that is entered at an edge that is drawn. -/
def okS (a d : Int → Int → Int) (n : Int) (x : St) : Prop := ing n x.1 x.2.1 = true ∧ 0 ≤ x.2.2 ∧ x.2.2 ≤ 3 ∧ drw a d x.1 x.2.1 x.2.2 = true
/-- The points of a line, the side at which it leaves the last one, and whether it has come back to f. -/
def wy (a d : Int → Int → Int) (n : Int) (f : St) : Nat → St → Option (List (List Int) × Int × Bool)
 | 0, _ => none
 | k + 1, x => if ing n (step a d x).1 (step a d x).2.1 = true then (if step a d x = f then some ([[x.1, x.2.1]], exq a d x.1 x.2.1 x.2.2, true) else (wy a d n f k (step a d x)).map fun r => ([x.1, x.2.1] :: r.1, r.2)) else some ([[x.1, x.2.1]], exq a d x.1 x.2.1 x.2.2, false)

theorem four {s : Int} (h0 : 0 ≤ s) (h1 : s ≤ 3) : s = 0 ∨ s = 1 ∨ s = 2 ∨ s = 3 := by omega
theorem exq_4 (a d : Int → Int → Int) (i j s : Int) : 0 ≤ exq a d i j s ∧ exq a d i j s ≤ 3 := by
 unfold exq; repeat' split
 all_goals omega
theorem op_4 {e : Int} (h0 : 0 ≤ e) (h1 : e ≤ 3) : 0 ≤ op e ∧ op e ≤ 3 ∧ op (op e) = e := by
 unfold op; omega
/-- The side at which the line goes out: the other one that is drawn. -/
theorem exq_ok {a d : Int → Int → Int} {n i j s : Int} (hg : Good a d n) (hi : ing n i j = true) (h0 : 0 ≤ s) (h1 : s ≤ 3) (hd : drw a d i j s = true) :
  exq a d i j s ≠ s ∧ drw a d i j (exq a d i j s) = true ∧ exq a d i j (exq a d i j s) = s := by
 have h := hg i j hi
 unfold exq
 cases e0 : drw a d i j 0 <;> cases e1 : drw a d i j 1 <;> cases e2 : drw a d i j 2 <;> cases e3 : drw a d i j 3 <;> rw [e0, e1, e2, e3] at h <;> simp [b2] at h <;>
  rcases four h0 h1 with rfl | rfl | rfl | rfl <;> simp_all
/-- The edge by which a point is left is the one by which the next is entered. -/
theorem drw_next (a d : Int → Int → Int) (i j e : Int) (h0 : 0 ≤ e) (h1 : e ≤ 3) : drw a d (mi i e) (mj j e) (op e) = drw a d i j e := by
 rcases four h0 h1 with rfl | rfl | rfl | rfl <;> simp [drw, mi, mj, op]
theorem mij_back (i j e : Int) (h0 : 0 ≤ e) (h1 : e ≤ 3) : mi (mi i e) (op e) = i ∧ mj (mj j e) (op e) = j := by
 rcases four h0 h1 with rfl | rfl | rfl | rfl <;> simp [mi, mj, op] <;> omega
theorem step_ok {a d : Int → Int → Int} {n : Int} (hg : Good a d n) {x : St} (hx : okS a d n x) (hi : ing n (step a d x).1 (step a d x).2.1 = true) : okS a d n (step a d x) ∧ bck a d (step a d x) = x := by
 obtain ⟨i, j, s⟩ := x
 obtain ⟨h1, h2, h3, h4⟩ := hx
 simp only at h1 h2 h3 h4
 obtain ⟨k1, k2, k3⟩ := exq_ok hg h1 h2 h3 h4
 obtain ⟨e0, e1⟩ := exq_4 a d i j s
 obtain ⟨o0, o1, o2⟩ := op_4 e0 e1
 obtain ⟨m1, m2⟩ := mij_back i j _ e0 e1
 refine ⟨⟨hi, o0, o1, ?_⟩, ?_⟩
 ·exact (drw_next a d i j _ e0 e1).trans k2
 ·unfold bck step
  simp only
  rw [m1, m2, o2, k3]

/-- All states of n rows. -/
def univ (n : Nat) : List St := (List.range n).flatMap fun (i : Nat) => (List.range n).flatMap fun (j : Nat) => (List.range 4).map fun (s : Nat) => ((i : Int), (j : Int), (s : Int))
theorem mem_univ {n : Nat} {a d : Int → Int → Int} {x : St} (h : okS a d (n : Int) x) : x ∈ univ n := by
 obtain ⟨i, j, s⟩ := x
 obtain ⟨h1, h2, h3, _⟩ := h
 obtain ⟨g1, g2, g3, g4⟩ := ing_iff.1 h1
 simp only at g1 g2 g3 g4 h2 h3
 unfold univ
 simp only [List.mem_flatMap, List.mem_range, List.mem_map]
 exact ⟨i.toNat, by omega, j.toNat, by omega, s.toNat, by omega, by rw [Int.toNat_of_nonneg g1, Int.toNat_of_nonneg g3, Int.toNat_of_nonneg h2]⟩
theorem univ_len {n : Nat} (h : n ≤ 6) : (univ n).length ≤ 144 := by
 have e : n = 0 ∨ n = 1 ∨ n = 2 ∨ n = 3 ∨ n = 4 ∨ n = 5 ∨ n = 6 := by omega
 rcases e with rfl | rfl | rfl | rfl | rfl | rfl | rfl <;> decide +kernel
theorem len_le {α : Type} [DecidableEq α] : ∀ (l U : List α), l.Nodup → (∀ x ∈ l, x ∈ U) → l.length ≤ U.length
 | [], U, _, _ => Nat.zero_le _
 | a :: l, U, hn, hs => by
  have ha := hs a (List.mem_cons_self ..)
  obtain ⟨h1, h2⟩ := List.nodup_cons.1 hn
  have h3 := len_le l (U.erase a) h2 (fun x hx => (List.mem_erase_of_ne (show x ≠ a from fun e => h1 (by rw [← e]; exact hx))).2 (hs x (List.mem_cons_of_mem _ hx)))
  rw [List.length_erase_of_mem ha] at h3
  have h4 : 0 < U.length := List.length_pos_of_mem ha
  simp only [List.length_cons]
  omega
/-- A line ends. V: the states that have been, the last one first. -/
theorem wy_ends {a d : Int → Int → Int} {n : Nat} (hg : Good a d (n : Int)) (f : St) : ∀ (k : Nat) (V : List St) (x : St), V.Nodup → (∀ y ∈ V, okS a d n y) → okS a d n x → x ∉ V → (∀ y, y = x ∨ y ∈ V → y = f ∨ ∃ z ∈ V, step a d z = y) → (univ n).length ≤ V.length + k → ∃ r, wy a d n f k x = some r := by
 intro k
 induction k with
 | zero =>
  intro V x hV hok hx hxV hch hlen
  have := len_le (x :: V) (univ n) (List.nodup_cons.2 ⟨hxV, hV⟩) (fun y hy => (List.mem_cons.1 hy).elim (fun e => e ▸ mem_univ hx) (fun h => mem_univ (hok y h)))
  simp only [List.length_cons] at this
  omega
 | succ k ih =>
  intro V x hV hok hx hxV hch hlen
  rw [wy]
  by_cases hi : ing n (step a d x).1 (step a d x).2.1 = true
  ·rw [if_pos hi]
   by_cases hf : step a d x = f
   ·rw [if_pos hf]; exact ⟨_, rfl⟩
   ·rw [if_neg hf]
    obtain ⟨s1, s2⟩ := step_ok hg hx hi
    have hnew : step a d x ∉ x :: V := by
     intro hm
     have hm' : step a d x = x ∨ step a d x ∈ V := List.mem_cons.1 hm
     rcases hch _ hm' with e | ⟨z, hz, e⟩
     ·exact hf e
     ·have hzo := hok z hz
      have hz2 := (step_ok hg hzo (by rw [e]; exact hi)).2
      rw [e, s2] at hz2
      exact hxV (hz2 ▸ hz)
    obtain ⟨r, hr⟩ := ih (x :: V) (step a d x) (List.nodup_cons.2 ⟨hxV, hV⟩) (fun y hy => (List.mem_cons.1 hy).elim (fun e => e ▸ hx) (hok y)) s1 hnew (fun y hy => by
     rcases hy with e | hy
     ·exact .inr ⟨x, List.mem_cons_self .., e.symm⟩
     ·rcases hch y (List.mem_cons.1 hy) with e | ⟨z, hz, e⟩
      ·exact .inl e
      ·exact .inr ⟨z, List.mem_cons_of_mem _ hz, e⟩) (by simp only [List.length_cons]; omega)
    exact ⟨_, by rw [hr]; rfl⟩
  ·rw [if_neg hi]; exact ⟨_, rfl⟩
theorem wy_some {a d : Int → Int → Int} {n : Nat} (hn : n ≤ 6) (hg : Good a d (n : Int)) (x : St) (hx : okS a d n x) : ∃ r, wy a d n x 144 x = some r :=
 wy_ends hg x 144 [] x List.nodup_nil (by simp) hx (by simp) (fun y hy => by rcases hy with e | h; exact .inl e; simp at h) (by have := univ_len hn; simpa using this)
/-- What a line is: all its points lie in the square; there are at most as many as rounds; the side at which it goes out is drawn, and where it hasn't come back it leads out of the square. -/
theorem wy_what {a d : Int → Int → Int} {n : Nat} (hg : Good a d (n : Int)) (f : St) : ∀ (k : Nat) (x : St) (r : List (List Int) × Int × Bool), okS a d n x → wy a d n f k x = some r →
  r.1.length ≤ k ∧ (∀ p ∈ r.1, ∃ i j : Int, p = [i, j] ∧ ing n i j = true) ∧ (∃ i j : Int, r.1.getLast? = some [i, j] ∧ ing n i j = true ∧ 0 ≤ r.2.1 ∧ r.2.1 ≤ 3 ∧ drw a d i j r.2.1 = true ∧ (r.2.2 = false → ing n (mi i r.2.1) (mj j r.2.1) = false)) := by
 intro k
 induction k with
 | zero => intro x r _ h; simp [wy] at h
 | succ k ih =>
  intro x r hx h
  obtain ⟨i, j, s⟩ := x
  rw [wy] at h
  obtain ⟨e0, e1⟩ := exq_4 a d i j s
  obtain ⟨x1, x2, x3, x4⟩ := hx
  simp only at x1 x2 x3 x4
  obtain ⟨k1, k2, _⟩ := exq_ok hg x1 x2 x3 x4
  by_cases hi : ing n (step a d (i, j, s)).1 (step a d (i, j, s)).2.1 = true
  ·rw [if_pos hi] at h
   by_cases hf : step a d (i, j, s) = f
   ·rw [if_pos hf] at h
    obtain rfl := Option.some.inj h
    exact ⟨by simp, fun p hp => ⟨i, j, by simpa using hp, x1⟩, i, j, rfl, x1, e0, e1, k2, fun h => by simp at h⟩
   ·rw [if_neg hf] at h
    obtain ⟨q, hq, rfl⟩ := Option.map_eq_some_iff.1 h
    obtain ⟨h1, h2, i2, j2, h3, h4⟩ := ih _ q (step_ok hg ⟨x1, x2, x3, x4⟩ hi).1 hq
    refine ⟨by simp only [List.length_cons]; omega, fun p hp => ?_, i2, j2, ?_, h4⟩
    ·rcases List.mem_cons.1 hp with e | e
     ·exact ⟨i, j, e, x1⟩
     ·exact h2 p e
    ·cases hq1 : q.1 with
     | nil => rw [hq1] at h3; simp at h3
     | cons u v => rw [hq1] at h3; rw [List.getLast?_cons_cons]; exact h3
  ·rw [if_neg hi] at h
   obtain rfl := Option.some.inj h
   refine ⟨by simp, fun p hp => ⟨i, j, by simpa using hp, x1⟩, i, j, rfl, x1, e0, e1, k2, fun _ => ?_⟩
   exact Bool.not_eq_true _ ▸ hi
end Go.Proofs.Ythbkjaieenochaa.LN
