/- Texts of one chain, in build order. -/
import Derived.Test.YthbkjaieenochaaYSignsWithPattern18
namespace Go.Proofs.Ythbkjaieenochaa.L
open Go.RowKit Go.Proofs.Ythbkjaieenochaa Go.Proofs.Ythbkjaieenochaa.P Go.Proofs.YthbkjaieenochaaW.PrintWords Go.Proofs.YthbkjaieenochaaW.PrintLast Go.Proofs.YthbkjaieenochaaW.PrintMore
set_option linter.unusedVariables false
set_option linter.unusedSimpArgs false

theorem info_tabsT : (Try.prog.info? 22).map (fun i => (i.zero, i.size, i.bytes)) = some (some (.slice none 0 0), 1, 24) := by kernel_rfl
mutual
def taL : Nat → List Int → List (List Int) → Int → List (List Int) → Option (List (List (List Int)))
  | 0, _, _, _, _ => none
  | k + 1, row, rows, n, L => match L with
    | [] => some []
    | nx :: rest => (spec_trStep.f 1000 row nx n).bind fun st => (taE k nx (rows ++ [st]) n).bind fun a => (taL k row rows n rest).bind fun b => some (a ++ b)
def taE : Nat → List Int → List (List Int) → Int → Option (List (List (List Int)))
  | 0, _, _, _ => none
  | k + 1, row, rows, n => if rows.length ≤ 100 ∧ row.length ≤ 100 then (if (row.length : Int) = n then some [rows] else (tnE row n).bind fun L => if L.length ≤ 1000 then taL k row rows n L else none) else none
end
/-- A list of tables comes back whose blocks are ok or new. -/
def RetNT (w : World) (ok : Nat → Prop) (L : List (List (List Int))) (e : Ending) (w' : World) : Prop := ∃ v : Value, e = .returned v ∧ Kd.N (Kd.slice 28 (Kd.slice 3 (Kd.int .i64))) 22 w' w.heap.size (fun k => ok k ∨ w.heap.size ≤ k) v L ∧ Below w.heap.size w w'
theorem one_NT {α : Type} {d : Kd α} {e e1 : Nat} {W : World} {ok okp : Nat → Prop} {x : List α} {u : Value} (hf : Kd.FK (Kd.slice e1 d) W okp x [u]) (hok : ∀ k, okp k → ok k) (hfr : ok W.heap.size) (hlt : ∀ k, okp k → k < W.heap.size) :
    Kd.N (Kd.slice e1 d) e (W.alloc (.cells #[u] e)) W.heap.size ok (.slice (some ⟨W.heap.size, 0, none⟩) 1 1) [x] := by
  have hb := below_alloc (Below.refl W.heap.size W) (.cells #[u] e)
  have hsz1 : (Kd.raw (Kd.slice e1 d).sz).sz = 1 := rfl
  refine ⟨fun k hk => ?_, [[u]], rfl, ⟨fun k hk => hk.symm, [u], ?_, ?_⟩, ?_⟩
  · have : W.heap.size = k := by simpa [Value.ownBlock] using hk
    exact this ▸ hfr
  · exact ⟨rfl, .inr ⟨W.heap.size, 1, #[u], rfl, Nat.le_refl _, blk_new W _, Nat.le_refl _, by unfold maxLen; omega, rfl, rfl⟩⟩
  · refine ⟨rfl, fun j c hj => ?_⟩
    rcases j with _ | j
    · obtain rfl := Option.some.inj hj
      exact ⟨rfl, rfl, (Kd.slice e1 d).K_one (Kd.FK_now hf)⟩
    · simp at hj
  · intro j y c hy hc
    rcases j with _ | j
    · obtain rfl := Option.some.inj hy
      obtain rfl := Option.some.inj hc
      exact Kd.FK_mono (Kd.FK_below hf hb) (fun k hk => ⟨hok k hk, fun e => by have h2 := hlt k hk; have : k = W.heap.size := by simpa [Value.ownBlock] using e
                                                                               omega⟩)
    · simp at hy
def okVT (W : World) (ok : Nat → Prop) (v : Value) : Nat → Prop := fun j => ((ok j ∧ j < W.heap.size) ∨ W.heap.size ≤ j) ∧ some j ≠ v.ownBlock
def okTT (W : World) (ok : Nat → Prop) : Nat → Prop := fun j => (ok j ∧ j < W.heap.size) ∨ W.heap.size ≤ j
set_option maxHeartbeats 4000000 in
set_option maxRecDepth 100000 in
theorem spec_trAll.callsG : ∀ (k : Nat) (row : List Int) (rows : List (List Int)) (n : Int) (X : List (List (List Int))) (Aw : Option Addr) (cw : Nat) (A : Option Addr) (c : Nat) (W : World) (ok : Nat → Prop), taE k row rows n = some X → X.length ≤ 1000000 →
    Kd.C (Kd.int .i64) W Aw row.length row → row.length ≤ cw → Kd.F (Kd.slice 3 (Kd.int .i64)) W ok A rows.length rows → rows.length ≤ c →
    Calls Try.prog 60 #[.slice Aw row.length cw, .slice A rows.length c, .int .i64 n] W (RetNT W ok X) := by
  intro k
  induction k using Nat.strongRecOn with
  | _ k ih =>
  intro row rows n X Aw cw A c W ok hX hXl hC hcw hF hc
  cases k with
  | zero => simp [taE] at hX
  | succ k =>
  rw [taE] at hX
  split at hX
  case isFalse => cases hX
  rename_i hsm
  have hrl := hsm.1
  have hsl := hsm.2
  have HF := Aside0.mk (Kd.F_bound hF)
  have HC := Aside0.mk (Kd.C_F (Kd.heap_int _) hC)
  have HCN := Aside0.mk hc
  have HCW := Aside0.mk hcw
  have HB := Aside0.mk (Below.refl W.heap.size W)
  clear hF hC hsm hc hcw
  split at hX
  · rename_i he
    have hez : ((row.length : Nat) : Int) = n := he
    obtain rfl := Option.some.inj hX
    have HE := Aside0.mk (show Kd.N (Kd.slice 3 (Kd.int .i64)) 28 (W.alloc (.cells #[] 28)) W.heap.size (okTT W ok) (.slice (some ⟨W.heap.size, 0, none⟩) 0 0) ([] : List (List Int)) from Kd.S_N (S_empty (blk_new W _) (Nat.le_refl _) (.inr (Nat.le_refl _))))
    clear hX he
    go_enter Try.func60, Try.ntmps60
    go_wp2_with ((with_reducible refine gate_builtin (b := .append) (xs := #[.tmp 14, .tmp 15]) rfl ?_); at_builtin; refine Kd.N_append_rows (Kd.slice 3 (Kd.int .i64)) (w0 := W) W.heap.size rfl (.tmp 14) (.tmp 15) 22 28 (.slice none 0 0) 24 rfl Try.underlying22 info_rowsU rfl (by decide) (by omega) (.slice (some ⟨W.heap.size, 0, none⟩) 0 0) ([] : List (List Int)) rows _ _ _ (okTT W ok) (fun k => ok k ∧ k < W.heap.size) rfl rfl HE.out (Kd.F_alloc HF.out _) (fun k hk => ⟨.inl hk, fun e => by have := own_atT e; have := hk.2; omega⟩) (fun k hk => .inr (Nat.le_trans (by simp) hk)) (below_alloc (Below.refl _ _) _) (by simp) (by simp only [List.length_nil]; omega) ?_; intro v7 w7 ho7 hb7 hg7 hat7; rw [List.nil_append] at ho7; obtain ⟨A7, c7, rfl⟩ := Kd.N_slice ho7; have HN7 := Aside0.mk ho7; have HB7 := Aside0.mk hb7; clear ho7 hb7 hg7 hat7)
    go_ret
    refine ⟨_, rfl, ?_, below_alloc HB7.out _⟩
    exact Kd.N_mono (Kd.N_lower (one_NT (okp := fun k => okTT W ok k ∧ k < w7.heap.size) (ok := okTT W ok) (Kd.FK_slice_mk (Kd.N_reads' HN7.out).2.1 (Kd.F_bound (Kd.N_F HN7.out))) (fun k hk => hk.1) (.inr HB7.out.size) (fun k hk => hk.2)) HB7.out.size) (fun k hk => hk.elim (fun h => .inl h.1) .inr)
  · rename_i he
    have hez : ¬ ((row.length : Nat) : Int) = n := he
    obtain ⟨L, hL, hX⟩ := Option.bind_eq_some_iff.1 hX
    split at hX
    case isFalse => cases hX
    rename_i hLl
    have HM := Aside0.mk hX
    have HR := Aside0.mk (fun W' (hb : Below W.heap.size W W') => spec_trNext.callsG row n L Aw cw W' hL (Kd.F_now (Kd.F_below HC.out hb)) HCW.out)
    have IH := Aside0.mk ih
    clear hX hL ih he
    go_enter Try.func60, Try.ntmps60
    go_wp2_with (go_at_call 91; refine (HR.out _ HB.out).mono ?_; rintro e w1 ⟨v1, rfl, hN, hb⟩; obtain ⟨Al, cl, rfl⟩ := Kd.N_slice hN; have HL := Aside0.mk (Kd.F_mono (ok' := fun j => W.heap.size ≤ j ∧ j < w1.heap.size) (Kd.F_bound (Kd.N_F hN)) (fun j hj => hj)); have HB1 := Aside0.mk hb; clear hN hb)
    have HSZ := Aside0.mk (show W.heap.size ≤ w1.heap.size from HB1.out.size)
    clear HR
    go_loopg [7, 22] k (fun kq s7 s22 wr => ∃ (i : Nat) (X2 Y : List (List (List Int))), i ≤ L.length ∧ s22 = .int .i64 i ∧ Aside0 (taL kq row rows n (L.drop i) = some Y) ∧ Aside0 (kq ≤ k) ∧ Aside0 (X2 ++ Y = X) ∧ Aside0 (Kd.N (Kd.slice 28 (Kd.slice 3 (Kd.int .i64))) 22 wr w1.heap.size (okTT W ok) s7 X2) ∧ Aside0 (Below w1.heap.size w1 wr))
    case atStart => exact ⟨0, [], X, Nat.zero_le _, rfl, HM, ⟨Nat.le_refl _⟩, ⟨rfl⟩, ⟨Kd.N_nil _ _ _ _ _⟩, ⟨Below.refl _ _⟩⟩
    case round =>
      clear HM
      obtain ⟨i, X2, Y, hi, rfl, HM, HK, HX, HN, HBr⟩ := hrel
      cases gk with
      | zero => exact absurd HM.out (by simp [taL])
      | succ k3 =>
      have H := HM.out
      by_cases hlt : i < L.length
      · have hz : (i : Int) < (L.length : Int) := by omega
        obtain ⟨r, hr⟩ : ∃ r, r = L[i] := ⟨_, rfl⟩
        rw [List.drop_eq_getElem_cons hlt, ← hr, taL] at H
        obtain ⟨st, hst, H⟩ := Option.bind_eq_some_iff.1 H
        obtain ⟨a, ha, H⟩ := Option.bind_eq_some_iff.1 H
        obtain ⟨b2, hb2, H⟩ := Option.bind_eq_some_iff.1 H
        obtain rfl := Option.some.inj H
        obtain ⟨ad, cc, hA, hcl1, hFK, hcell, _⟩ := Kd.F_get HL.out ([] : List Int) (i : Int) (by omega) (by omega)
        subst hA
        obtain ⟨Ar, cr, rfl, hcr, hFx⟩ := Kd.FK_slice_open hFK
        have hx := hcell 0 _ rfl
        rw [Int.toNat_natCast, show (Kd.slice 3 (Kd.int .i64)).sz = 1 from rfl, Nat.mul_one, Nat.add_zero] at hx
        have hge : L.getD i [] = r := by rw [hr, List.getD_eq_getElem?_getD, List.getElem?_eq_getElem hlt]; rfl
        rw [Int.toNat_natCast, hge] at hcr hFx
        rw [hge] at hx
        replace hx := pw_cell_below HBr.out hx
        have HXF := Aside0.mk hFx
        have HCR := Aside0.mk hcr
        have HA := Aside0.mk ha
        have HB2 := Aside0.mk hb2
        have HBo := Aside0.mk (HB1.out.trans (HBr.out.mono HSZ.out))
        have HST := Aside0.mk (fun W' (hb : Below wr.heap.size wr W') => spec_trStep.calls 1000 Aw cw row Ar cr r n st W' (Kd.F_now (Kd.F_below HC.out (HBo.out.trans (hb.mono HBo.out.size)))) HCW.out (Kd.F_now (Kd.F_below HXF.out (HBr.out.trans (hb.mono HBr.out.size)))) HCR.out hst)
        have hlt5 := Kd.N_lt HN.out
        have hsz1 := HBr.out.size
        have HFV := Aside0.mk (show ∀ j, wr.heap.size ≤ j → okVT W ok u7 j from fun j hj => ⟨.inr (by have := HSZ.out; omega), fun e => by have := hlt5 j e.symm; omega⟩)
        have HE := Aside0.mk (show Kd.N (Kd.slice 3 (Kd.int .i64)) 28 (wr.alloc (.cells #[] 28)) wr.heap.size (okVT W ok u7) (.slice (some ⟨wr.heap.size, 0, none⟩) 0 0) ([] : List (List Int)) from Kd.S_N (S_empty (blk_new wr _) (Nat.le_refl _) (HFV.out _ (Nat.le_refl _))))
        have HRW := Aside0.mk (Kd.F_below HF.out (HBo.out.trans ((below_alloc (Below.refl wr.heap.size wr) (.cells #[] 28)).mono (by have := HSZ.out; omega))))
        have HOK := Aside0.mk (show ∀ j, (ok j ∧ j < W.heap.size) → okVT W ok u7 j ∧ some j ≠ (Value.slice (some ⟨wr.heap.size, 0, none⟩) 0 0).ownBlock from fun j hj => ⟨⟨.inl hj, fun e => by have := Kd.N_base HN.out j e.symm; have := hj.2; have := HSZ.out; omega⟩, fun e => by have h1 := hj.2; have h2 := own_atT e; have := HSZ.out; omega⟩)
        have HXA := Aside0.mk (show (X2 ++ a).length + b2.length ≤ 1000000 by have h1 := hXl; rw [← HX.out, List.length_append, List.length_append] at h1; rw [List.length_append]; omega)
        clear HM H ha hb2 hFK hcell hcl1 hcr hFx hge hr hst hXl
        go_wp2_with (first
          | ((with_reducible refine gate_builtin (b := .append) (xs := #[.tmp 28, .tmp 29]) rfl ?_); at_builtin; refine Kd.N_append_rows (Kd.slice 3 (Kd.int .i64)) (w0 := wr) wr.heap.size rfl (.tmp 28) (.tmp 29) 22 28 (.slice none 0 0) 24 rfl Try.underlying22 info_rowsU rfl (by decide) (by omega) (.slice (some ⟨wr.heap.size, 0, none⟩) 0 0) ([] : List (List Int)) rows _ _ _ (okVT W ok u7) (fun k => ok k ∧ k < W.heap.size) rfl rfl HE.out HRW.out HOK.out (fun j hj => HFV.out j (Nat.le_trans (by simp) hj)) (below_alloc (Below.refl _ _) _) (by simp) (by simp only [List.length_nil]; omega) ?_; intro v7 w7 ho7 hb7 hg7 hat7; rw [List.nil_append] at ho7; have HN7 := Aside0.mk ho7; have HB7 := Aside0.mk hb7; clear ho7 hb7 hg7 hat7)
          | (go_at_call 92; refine (HST.out _ HB7.out).mono ?_; rintro e w2 ⟨v2, rfl, hR, hb⟩; obtain ⟨A2, c2, rfl⟩ := Kd.R_slice hR; have HR2 := Aside0.mk (Kd.F_mono (ok' := fun j => w7.heap.size ≤ j ∧ j < w2.heap.size) (Kd.R_F (Kd.R_bound hR)) (fun j hj => ⟨hj.2.1, hj.2.2.1⟩)); have HR2c := Aside0.mk (Kd.R_reads' hR).2.1; have HN2 := Aside0.mk (Kd.N_below (Kd.N_bound HN7.out) hb); have HB8 := Aside0.mk (HB7.out.trans (hb.mono HB7.out.size)); have SZ7 := Aside0.mk HB7.out.size; have SZ2 := Aside0.mk hb.size; have LT7 := Aside0.mk (Kd.N_lt HN7.out); clear hR hb)
          | ((with_reducible refine gate_builtin (b := .append) (xs := #[.tmp 30, .tmp 35]) rfl ?_); at_builtin; refine Kd.N_append (Kd.slice 3 (Kd.int .i64)) (w0 := wr) wr.heap.size rfl (.tmp 30) (.tmp 35) 22 28 (.slice none 0 0) 24 rfl Try.underlying22 info_rowsU rfl (by decide) (by omega) v7 rows st [.slice A2 st.length c2] (okVT W ok u7) (fun j => w7.heap.size ≤ j ∧ j < w2.heap.size) rfl rfl (Kd.FK_slice_mk HR2c.out HR2.out) (fun j hj => ⟨HFV.out j (Nat.le_trans SZ7.out hj.1), fun e => by have := LT7.out j e.symm; have := hj.1; omega⟩) (fun j hj => HFV.out j (Nat.le_trans HB8.out.size hj)) (Kd.N_mono HN2.out (fun j hj => hj.1)) HB8.out HB8.out.size (by omega) ?_; intro v8 w8 ho8 hb8 hg8 hat8; obtain ⟨R9, hR9⟩ : ∃ z, z = rows ++ [st] := ⟨_, rfl⟩; rw [← hR9] at ho8 HA; obtain ⟨A9, c9, rfl⟩ := Kd.N_slice ho8; have HN8 := Aside0.mk ho8; have HB9 := Aside0.mk hb8; clear ho8 hb8 hg8 hat8 hR9)
          | (go_at_call 60; have hh := IH.out k3 (by have := HK.out; omega) r R9 n a Ar cr A9 c9 w8 (okVT W ok u7) HA.out (by have := HXA.out; rw [List.length_append] at this; omega) (Kd.F_now (Kd.F_below HXF.out (HBr.out.trans (HB9.out.mono hsz1)))) HCR.out (Kd.N_F HN8.out) (Kd.N_reads' HN8.out).2.1; refine hh.mono ?_; rintro e w9 ⟨v9, rfl, hN9, hb9⟩; obtain ⟨A53, c53, rfl⟩ := Kd.N_slice hN9; have HN9 := Aside0.mk hN9; have HBA := Aside0.mk (HB9.out.trans (hb9.mono HB9.out.size)); have SZ8 := Aside0.mk HB9.out.size; clear hN9 hb9 hh)
          | ((with_reducible refine gate_builtin (b := .append) (xs := #[.tmp 26, .tmp 38]) rfl ?_); at_builtin; refine Kd.N_append_rows (Kd.slice 28 (Kd.slice 3 (Kd.int .i64))) (w0 := w1) w1.heap.size rfl (.tmp 26) (.tmp 38) 39 22 (.slice none 0 0) 24 rfl Try.underlying39 info_tabsT rfl (by decide) (by omega) u7 X2 a _ _ _ (okTT W ok) (okVT W ok u7) rfl rfl (Kd.N_mono (Kd.N_below (Kd.N_bound HN.out) HBA.out) (fun k hk => hk.1)) (Kd.N_F (Kd.N_mono HN9.out (fun j hj => hj.elim id (fun h => HFV.out j (Nat.le_trans SZ8.out h))))) (fun _ h => h) (fun j hj => .inr (by have := HBA.out.size; have := HSZ.out; omega)) (HBr.out.trans (HBA.out.mono hsz1)) (by have := HBA.out.size; omega) (by have := HXA.out; rw [List.length_append] at this; omega) ?_; intro v10 w10 ho10 hb10 hg10 hat10; have HN10 := Aside0.mk ho10; have HB10 := Aside0.mk hb10; clear ho10 hb10 hg10 hat10))
        go_roundg k3
        case measure => have := HK.out; omega
        case rel => exact ⟨i + 1, X2 ++ a, b2, by omega, by go_num, HB2, ⟨by have := HK.out; omega⟩, ⟨by rw [List.append_assoc]; exact HX.out⟩, HN10, HB10⟩
      · have hz : ¬ (i : Int) < (L.length : Int) := by omega
        have hie : i = L.length := by omega
        subst hie
        rw [List.drop_length, taL] at H
        obtain rfl := Option.some.inj H
        have HX3 := Aside0.mk (show X2 = X by have := HX.out; rwa [List.append_nil] at this)
        clear H HM
        go_wp2
        go_ret
        exact ⟨_, rfl, by rw [← HX3.out]; exact Kd.N_lower (Kd.N_mono HN.out (fun k hk => hk.imp (fun h => h.1) id)) HSZ.out, HB1.out.trans (HBr.out.mono HSZ.out)⟩
end Go.Proofs.Ythbkjaieenochaa.L
