/- Texts of one chain, in build order. -/
import Derived.Test.YtdcdkckpmkfjdaaYBWeightSumSetSum6
import Derived.Test.YtdcdkckpmkfjdaaWMore
namespace Go.Proofs.Ytdcdkckpmkfjdaa.L
open Go.RowKit Go.Proofs.Ytdcdkckpmkfjdaa Go.Proofs.Ytdcdkckpmkfjdaa.P Go.Proofs.YtdcdkckpmkfjdaaW.PrintWords Go.Proofs.YtdcdkckpmkfjdaaW.PrintLast Go.Proofs.YtdcdkckpmkfjdaaW.PrintMore
set_option linter.unusedVariables false
set_option linter.unusedSimpArgs false

/-- A row added to the sums of the columns. -/
def addR (s r : List Int) (j : Nat) : List Int := (List.range j).foldl (fun s j => s.set j (wrap64 (rd s j + rd r j))) s
theorem addR_succ (s r : List Int) (j : Nat) : addR s r (j + 1) = (addR s r j).set j (wrap64 (rd (addR s r j) j + rd r j)) := by
  unfold addR
  rw [List.range_succ, List.foldl_append]
  rfl
theorem addR_length (s r : List Int) : ∀ j, (addR s r j).length = s.length
  | 0 => rfl
  | j + 1 => by rw [addR_succ, List.length_set, addR_length s r j]
theorem own_at {g j n c : Nat} (h : some j = (Value.slice (some ⟨g, 0, none⟩) n c).ownBlock) : j = g := by simpa [Value.ownBlock] using h
mutual
def wgL : Nat → List (List Int) → List Int → List (List Int) → Option (List (List (List Int)))
  | 0, _, _, _ => none
  | k + 1, rows, s, L => match L with
    | [] => some []
    | r :: rest => if r.length ≤ s.length then (wgE k (rows ++ [r]) (addR s r r.length)).bind fun a => (wgL k rows s rest).bind fun b => some (a ++ b) else none
def wgE : Nat → List (List Int) → List Int → Option (List (List (List Int)))
  | 0, _, _ => none
  | k + 1, rows, s => if rows.length ≤ 100 ∧ s.length ≤ 100 then (if rows.length = s.length then some (if (s.all fun x => inB x 1 1) = true then [rows] else []) else (spec_weRows.f k s [] 0).bind fun L => if L.length ≤ 1000 then wgL k rows s L else none) else none
end
/-- A list of tables comes back whose blocks are ok or new. -/
def RetNM (w : World) (ok : Nat → Prop) (L : List (List (List Int))) (e : Ending) (w' : World) : Prop := ∃ v : Value, e = .returned v ∧ Kd.N (Kd.slice 22 (Kd.slice 3 (Kd.int .i64))) 36 w' w.heap.size (fun k => ok k ∨ w.heap.size ≤ k) v L ∧ Below w.heap.size w w'
/-- A list of one element, in a block of its own. -/
theorem one_N {α : Type} {d : Kd α} {e e1 : Nat} {W : World} {ok okp : Nat → Prop} {x : List α} {u : Value} (hf : Kd.FK (Kd.slice e1 d) W okp x [u]) (hok : ∀ k, okp k → ok k) (hfr : ok W.heap.size) (hlt : ∀ k, okp k → k < W.heap.size) :
    Kd.N (Kd.slice e1 d) e (W.alloc (.cells #[u] e)) W.heap.size ok (.slice (some ⟨W.heap.size, 0, none⟩) 1 1) [x] := by
  have hb := below_alloc (Below.refl W.heap.size W) (.cells #[u] e)
  have hsz1 : (Kd.raw (Kd.slice e1 d).sz).sz = 1 := rfl
  refine ⟨fun k hk => ?_, [[u]], rfl, ⟨fun k hk => hk.symm, [u], ?_, ?_⟩, ?_⟩
  · have : W.heap.size = k := by simpa [Value.ownBlock] using hk
    exact this ▸ hfr
  · exact ⟨rfl, .inr ⟨W.heap.size, 1, #[u], rfl, Nat.le_refl _, blk_new W _, Nat.le_refl _, by unfold maxLen; omega, rfl, rfl⟩⟩
  · refine ⟨rfl, fun j c hj => ?_⟩
    rcases j with _ | j
    · obtain rfl := Option.some.inj hj
      exact ⟨rfl, rfl, (Kd.slice e1 d).K_one (Kd.FK_now hf)⟩
    · simp at hj
  · intro j y c hy hc
    rcases j with _ | j
    · obtain rfl := Option.some.inj hy
      obtain rfl := Option.some.inj hc
      exact Kd.FK_mono (Kd.FK_below hf hb) (fun k hk => ⟨hok k hk, fun e => by have h2 := hlt k hk; have : k = W.heap.size := by simpa [Value.ownBlock] using e
                                                                               omega⟩)
    · simp at hy
def okV (W : World) (ok : Nat → Prop) (v : Value) : Nat → Prop := fun j => ((ok j ∧ j < W.heap.size) ∨ W.heap.size ≤ j) ∧ some j ≠ v.ownBlock
def okT (W : World) (ok : Nat → Prop) : Nat → Prop := fun j => (ok j ∧ j < W.heap.size) ∨ W.heap.size ≤ j
set_option maxHeartbeats 4000000 in
set_option maxRecDepth 100000 in
theorem spec_weGoOn.callsG : ∀ (k : Nat) (rows : List (List Int)) (s : List Int) (X : List (List (List Int))) (A : Option Addr) (c : Nat) (As : Option Addr) (cs : Nat) (W : World) (ok : Nat → Prop), wgE k rows s = some X → X.length ≤ 1000000 →
    Kd.F (Kd.slice 3 (Kd.int .i64)) W ok A rows.length rows → rows.length ≤ c → Kd.C (Kd.int .i64) W As s.length s → s.length ≤ cs →
    Calls Try.prog 109 #[.slice A rows.length c, .slice As s.length cs] W (RetNM W ok X) := by
  intro k
  induction k using Nat.strongRecOn with
  | _ k ih =>
  intro rows s X A c As cs W ok hX hXl hF hc hC hcs
  cases k with
  | zero => simp [wgE] at hX
  | succ k =>
  rw [wgE] at hX
  split at hX
  case isFalse => cases hX
  rename_i hsm
  have hrl := hsm.1
  have hsl := hsm.2
  have HF := Aside0.mk (Kd.F_bound hF)
  have HC := Aside0.mk (Kd.C_F (Kd.heap_int _) hC)
  have HCN := Aside0.mk hc
  have HCS := Aside0.mk hcs
  have HB := Aside0.mk (Below.refl W.heap.size W)
  clear hF hC hsm hc hcs
  split at hX
  · rename_i he
    obtain ⟨ka, hka⟩ := (l1All_ev s 1 1 (by omega)).rounds
    have HA := Aside0.mk (fun W' (hb : Below W.heap.size W W') => spec_l1All.calls ka As cs s 1 1 _ W' (Kd.F_now (Kd.F_below HC.out hb)) HCS.out hka)
    have hez : (rows.length : Int) = (s.length : Int) := by omega
    obtain rfl := Option.some.inj hX
    clear hX hka
    cases ha : s.all fun x => inB x 1 1 with
    | false =>
      rw [ha] at HA
      rw [if_neg (by simp)]
      clear ha
      go_enter Try.func109, Try.ntmps109
      go_wp2_with (go_at_call 114; refine (HA.out _ HB.out).mono ?_; rintro e w1 ⟨rfl, hd⟩; have hb := hd.below; clear hd)
      go_ret
      exact ⟨_, rfl, Kd.N_nil _ _ _ _ _, hb⟩
    | true =>
      rw [ha] at HA
      rw [if_pos rfl]
      clear ha
      go_enter Try.func109, Try.ntmps109
      go_wp2_with (go_at_call 114; refine (HA.out _ HB.out).mono ?_; rintro e w1 ⟨rfl, hd⟩; have hb := hd.below; clear hd)
      go_ret
      refine ⟨_, rfl, ?_, below_alloc hb _⟩
      rw [← he]
      exact Kd.N_lower (one_N (okp := fun k => ok k ∧ k < W.heap.size) (Kd.FK_slice_mk HCN.out (Kd.F_below HF.out hb)) (fun k hk => .inl hk.1) (.inr hb.size) (fun k hk => by have := hk.2; have := hb.size; omega)) hb.size
  · rename_i he
    have hez : ¬ (rows.length : Int) = (s.length : Int) := by omega
    obtain ⟨L, hL, hX⟩ := Option.bind_eq_some_iff.1 hX
    split at hX
    case isFalse => cases hX
    rename_i hLl
    have HM := Aside0.mk hX
    have HR := Aside0.mk (fun W' (hb : Below W.heap.size W W') => spec_weRows.calls k As cs s (fun _ => False) none 0 [] 0 L W' (Kd.F_now (Kd.F_below HC.out hb)) HCS.out (Kd.V_nil _ _ _ _ _) hL)
    have IH := Aside0.mk ih
    clear hX hL ih
    go_enter Try.func109, Try.ntmps109
    go_wp2_with (go_at_call 142; refine (HR.out _ HB.out).mono ?_; rintro e w1 ⟨v1, rfl, hN, hb⟩; obtain ⟨Al, cl, rfl⟩ := Kd.N_slice hN; have HL := Aside0.mk (Kd.F_mono (ok' := fun j => W.heap.size ≤ j ∧ j < w1.heap.size) (Kd.F_bound (Kd.N_F hN)) (fun j hj => ⟨hj.1.elim (fun h => h.elim) id, hj.2⟩)); have HB1 := Aside0.mk hb; clear hN hb)
    have HSZ := Aside0.mk (show W.heap.size ≤ w1.heap.size from HB1.out.size)
    clear HR
    go_loopg [5, 24] k (fun kq s5 s24 wr => ∃ (i : Nat) (X2 Y : List (List (List Int))), i ≤ L.length ∧ s24 = .int .i64 i ∧ Aside0 (wgL kq rows s (L.drop i) = some Y) ∧ Aside0 (kq ≤ k) ∧ Aside0 (X2 ++ Y = X) ∧ Aside0 (Kd.N (Kd.slice 22 (Kd.slice 3 (Kd.int .i64))) 36 wr w1.heap.size (okT W ok) s5 X2) ∧ Aside0 (Below w1.heap.size w1 wr))
    case atStart => exact ⟨0, [], X, Nat.zero_le _, rfl, HM, ⟨Nat.le_refl _⟩, ⟨rfl⟩, ⟨Kd.N_nil _ _ _ _ _⟩, ⟨Below.refl _ _⟩⟩
    case round =>
      clear HM
      obtain ⟨i, X2, Y, hi, rfl, HM, HK, HX, HN, HBr⟩ := hrel
      cases gk with
      | zero => exact absurd HM.out (by simp [wgL])
      | succ k3 =>
      have H := HM.out
      by_cases hlt : i < L.length
      · have hz : (i : Int) < (L.length : Int) := by omega
        obtain ⟨r, hr⟩ : ∃ r, r = L[i] := ⟨_, rfl⟩
        rw [List.drop_eq_getElem_cons hlt, ← hr, wgL] at H
        split at H
        case isFalse => cases H
        rename_i hrs
        obtain ⟨a, ha, H⟩ := Option.bind_eq_some_iff.1 H
        obtain ⟨b2, hb2, H⟩ := Option.bind_eq_some_iff.1 H
        obtain rfl := Option.some.inj H
        obtain ⟨ad, cc, hA, hcl1, hFK, hcell, _⟩ := Kd.F_get HL.out ([] : List Int) (i : Int) (by omega) (by omega)
        subst hA
        obtain ⟨Ar, cr, rfl, hcr, hFx⟩ := Kd.FK_slice_open hFK
        have hx := hcell 0 _ rfl
        rw [Int.toNat_natCast, show (Kd.slice 3 (Kd.int .i64)).sz = 1 from rfl, Nat.mul_one, Nat.add_zero] at hx
        have hge : L.getD i [] = r := by rw [hr, List.getD_eq_getElem?_getD, List.getElem?_eq_getElem hlt]; rfl
        rw [Int.toNat_natCast, hge] at hcr hFx
        rw [hge] at hx
        replace hx := pw_cell_below HBr.out hx
        have HXF := Aside0.mk hFx
        have HCR := Aside0.mk hcr
        have HA := Aside0.mk ha
        have HB2 := Aside0.mk hb2
        obtain ⟨wo, rfl⟩ : ∃ wo : World, wo = wr := ⟨_, rfl⟩
        have HBo := Aside0.mk (HB1.out.trans (HBr.out.mono HSZ.out))
        have HOW := Aside0.mk (spec_l1Own.calls As cs s s wo (Kd.F_now (Kd.F_below HC.out HBo.out)) HCS.out (by unfold spec_l1Own.f; simp only [Option.bind_some, List.length_nil, List.nil_append]; rw [if_pos (by omega)]))
        clear HM H ha hb2 hFK hcell hcl1 hcr hFx hge hr
        go_wp2_with (go_at_call 110; refine HOW.out.mono ?_; rintro e w2 ⟨v8, rfl, hR8, hb8⟩; obtain ⟨A8, c8, rfl⟩ := Kd.R_slice hR8; have HR8 := Aside0.mk hR8; have HB8 := Aside0.mk hb8; clear hR8 hb8)
        go_loopg [32] r.length (fun gj s32 wr2 => ∃ j : Nat, j ≤ r.length ∧ r.length - j ≤ gj ∧ s32 = .int .i64 j ∧ Aside0 (Kd.R (Kd.int .i64) 3 wr2 wo.heap.size (fun _ => True) (.slice A8 s.length c8) (addR s r j)) ∧ Aside0 (Below wo.heap.size wo wr2))
        case atStart => exact ⟨0, Nat.zero_le _, Nat.le_refl _, rfl, HR8, HB8⟩
        case round =>
          clear HR8 HB8 HOW hx
          obtain ⟨j, hj, hgj, rfl, HR8, HB8⟩ := hrel
          by_cases hjt : j < r.length
          · have hjz : (j : Int) < (r.length : Int) := by omega
            have hjs : (j : Int) < (s.length : Int) := by omega
            have hcl := addR_length s r j
            obtain ⟨ad8, rfl, _⟩ := (Kd.R_reads' HR8.out).2.2.2.2 (by rw [hcl]; omega)
            obtain ⟨g8, rfl⟩ := Kd.R_head HR8.out
            have hb8 := Kd.R_base HR8.out g8 rfl
            obtain ⟨adr, e1, hy⟩ := Kd.at_int (Kd.F_now (Kd.F_below HXF.out (HBr.out.trans (HB8.out.mono HBr.out.size)))) (j : Int) (by omega) hjz
            subst e1
            obtain ⟨hc8, hf8⟩ := Kd.R_celln 0 HR8.out (j : Int) (by omega) hjs
            have hp8 := Kd.R_putn HR8.out (j : Int) (wrap64 (rd (addR s r j) j + rd r j))
            have hs8 := addR_succ s r j
            simp only [Int.toNat_natCast] at hy hc8 hf8 hp8
            rw [← hs8] at hp8
            have HP8 := Aside0.mk hp8
            have HBN := Aside0.mk (HB8.out.setCell (p := ⟨g8, j, none⟩) hb8 (.int .i64 (wrap64 (rd (addR s r j) j + rd r j))))
            have hc9 : wr.cell? ⟨g8, j, none⟩ = some (.int .i64 (rd (addR s r j) j)) := hc8
            have hf9 : wr.frozen? ⟨g8, j, none⟩ = false := hf8
            obtain ⟨cu, hcu⟩ : ∃ cu, cu = rd (addR s r j) j := ⟨_, rfl⟩
            rw [← hcu] at HP8 HBN hc9
            clear hc8 hf8 hp8 hs8 hcu hcl
            go_wp2
            go_roundg (r.length - (j + 1))
            case measure => omega
            case rel => exact ⟨j + 1, by omega, by omega, by go_num, HP8, HBN⟩
          · have hjz : ¬ (j : Int) < (r.length : Int) := by omega
            have hje : j = r.length := by omega
            subst hje
            have hlt5 := Kd.N_lt HN.out
            have hsz1 := HBr.out.size
            have hsz8 := HB8.out.size
            have HFV := Aside0.mk (show ∀ j, wr.heap.size ≤ j → okV W ok u5 j from fun j hj => ⟨.inr (by have := HSZ.out; omega), fun e => by have := hlt5 j e.symm; omega⟩)
            have HBW := Aside0.mk (show Below W.heap.size W wr from HB1.out.trans ((HBr.out.trans (HB8.out.mono hsz1)).mono HSZ.out))
            have HBV := Aside0.mk (show Below w1.heap.size w1 wr from HBr.out.trans (HB8.out.mono hsz1))
            have HE := Aside0.mk (show Kd.N (Kd.slice 3 (Kd.int .i64)) 22 (wr.alloc (.cells #[] 22)) wr.heap.size (okV W ok u5) (.slice (some ⟨wr.heap.size, 0, none⟩) 0 0) ([] : List (List Int)) from Kd.S_N (S_empty (blk_new wr _) (Nat.le_refl _) (HFV.out _ (Nat.le_refl _))))
            have HN5 := Aside0.mk (Kd.N_below (Kd.N_bound HN.out) HB8.out)
            have HRW := Aside0.mk (Kd.F_below HF.out (HBW.out.trans ((below_alloc (Below.refl wr.heap.size wr) (.cells #[] 22)).mono (by have := HSZ.out; omega))))
            have HOK := Aside0.mk (show ∀ j, (ok j ∧ j < W.heap.size) → okV W ok u5 j ∧ some j ≠ (Value.slice (some ⟨wr.heap.size, 0, none⟩) 0 0).ownBlock from fun j hj => ⟨⟨.inl hj, fun e => by have := Kd.N_base HN.out j e.symm; have := hj.2; have := HSZ.out; omega⟩, fun e => by have h1 := hj.2; have h2 := own_at e; have := HSZ.out; omega⟩)
            have HOL := Aside0.mk (show ∀ j, (W.heap.size ≤ j ∧ j < w1.heap.size) → okV W ok u5 j from fun j hj => ⟨.inr hj.1, fun e => by have := Kd.N_base HN.out j e.symm; have := hj.2; omega⟩)
            have HSL := Aside0.mk (addR_length s r r.length)
            obtain ⟨s9, hs9⟩ : ∃ z, z = addR s r r.length := ⟨_, rfl⟩
            rw [← hs9] at HSL HA HR8
            have HXA := Aside0.mk (show (X2 ++ a).length + b2.length ≤ 1000000 by have h1 := hXl; rw [← HX.out, List.length_append, List.length_append] at h1; rw [List.length_append]; omega)
            clear HN HB8 HBr hs9
            go_wp2_with (first
              | ((with_reducible refine gate_builtin (b := .append) (xs := #[.tmp 46, .tmp 47]) rfl ?_); at_builtin; refine Kd.N_append_rows (Kd.slice 3 (Kd.int .i64)) (w0 := wr) wr.heap.size rfl (.tmp 46) (.tmp 47) 36 22 (.slice none 0 0) 24 rfl Try.underlying36 info_rowsU rfl (by decide) (by omega) (.slice (some ⟨wr.heap.size, 0, none⟩) 0 0) ([] : List (List Int)) rows _ _ _ (okV W ok u5) (fun k => ok k ∧ k < W.heap.size) rfl rfl HE.out HRW.out HOK.out (fun j hj => HFV.out j (Nat.le_trans (by simp) hj)) (below_alloc (Below.refl _ _) _) (by simp) (by simp only [List.length_nil]; omega) ?_; intro v7 w7 ho7 hb7 hg7 hat7; rw [List.nil_append] at ho7; have HN7 := Aside0.mk ho7; have HB7 := Aside0.mk hb7; have HG7 := Aside0.mk (show ∀ k, v7.ownBlock = some k → wr.heap.size ≤ k from fun k e => hat7.elim (fun h => by rw [h] at e; have h2 := own_at e.symm; omega) (fun ⟨b, h, hb⟩ => by rw [h] at e; injection e with e; subst e; exact Nat.le_trans (by simp) hb)); clear ho7 hb7 hg7 hat7)
              | ((with_reducible refine gate_builtin (b := .append) (xs := #[.tmp 48, .tmp 50]) rfl ?_); at_builtin; refine Kd.N_append (Kd.slice 3 (Kd.int .i64)) (w0 := wr) wr.heap.size rfl (.tmp 48) (.tmp 50) 36 22 (.slice none 0 0) 24 rfl Try.underlying36 info_rowsU rfl (by decide) (by omega) v7 rows r [.slice Ar r.length cr] (okV W ok u5) (fun k => W.heap.size ≤ k ∧ k < w1.heap.size) rfl rfl (Kd.FK_slice_mk HCR.out (Kd.F_below HXF.out (HBV.out.trans (HB7.out.mono (Nat.le_trans hsz1 hsz8))))) (fun j hj => ⟨HOL.out j hj, fun e => by have := HG7.out j e.symm; have := hj.2; omega⟩) (fun j hj => HFV.out j (Nat.le_trans HB7.out.size hj)) HN7.out HB7.out HB7.out.size (by omega) ?_; intro v8 w8 ho8 hb8 hg8 hat8; obtain ⟨R9, hR9⟩ : ∃ z, z = rows ++ [r] := ⟨_, rfl⟩; rw [← hR9] at ho8 HA; obtain ⟨A9, c9, rfl⟩ := Kd.N_slice ho8; have HN8 := Aside0.mk ho8; have HB8 := Aside0.mk hb8; clear ho8 hb8 hg8 hat8 hR9)
              | (go_at_call 109; have hh := IH.out k3 (by have := HK.out; omega) R9 s9 a A9 c9 A8 c8 w8 (okV W ok u5) HA.out (by have := HXA.out; rw [List.length_append] at this; omega) (Kd.N_F HN8.out) (Kd.N_reads' HN8.out).2.1 (Kd.C_below (Kd.R_reads' HR8.out).2.2 HB8.out) (by have := (Kd.R_reads' HR8.out).2.1; have := HSL.out; omega); rw [HSL.out] at hh; refine hh.mono ?_; rintro e w9 ⟨v9, rfl, hN9, hb9⟩; obtain ⟨A53, c53, rfl⟩ := Kd.N_slice hN9; have HN9 := Aside0.mk hN9; have HB9 := Aside0.mk (HB8.out.trans (hb9.mono HB8.out.size)); clear hN9 hb9 hh)
              | ((with_reducible refine gate_builtin (b := .append) (xs := #[.tmp 45, .tmp 53]) rfl ?_); at_builtin; refine Kd.N_append_rows (Kd.slice 22 (Kd.slice 3 (Kd.int .i64))) (w0 := w1) w1.heap.size rfl (.tmp 45) (.tmp 53) 43 36 (.slice none 0 0) 24 rfl Try.underlying43 info_tabsD rfl (by decide) (by omega) u5 X2 a _ _ _ (okT W ok) (okV W ok u5) rfl rfl (Kd.N_mono (Kd.N_below HN5.out HB9.out) (fun k hk => hk.1)) (Kd.N_F (Kd.N_mono HN9.out (fun j hj => hj.elim id (fun h => HFV.out j (Nat.le_trans HB8.out.size h))))) (fun _ h => h) (fun j hj => .inr (by have := HB9.out.size; have := HSZ.out; omega)) (HBV.out.trans (HB9.out.mono (Nat.le_trans hsz1 hsz8))) (by have := HB9.out.size; omega) (by have := HXA.out; rw [List.length_append] at this; omega) ?_; intro v10 w10 ho10 hb10 hg10 hat10; have HN10 := Aside0.mk ho10; have HB10 := Aside0.mk hb10; clear ho10 hb10 hg10 hat10))
            go_roundg k3
            case measure => have := HK.out; omega
            case rel => exact ⟨i + 1, X2 ++ a, b2, by omega, by go_num, HB2, ⟨by have := HK.out; omega⟩, ⟨by rw [List.append_assoc]; exact HX.out⟩, HN10, HB10⟩
      · have hz : ¬ (i : Int) < (L.length : Int) := by omega
        have hie : i = L.length := by omega
        subst hie
        rw [List.drop_length, wgL] at H
        obtain rfl := Option.some.inj H
        have HX3 := Aside0.mk (show X2 = X by have := HX.out; rwa [List.append_nil] at this)
        clear H HM
        go_wp2
        go_ret
        exact ⟨_, rfl, by rw [← HX3.out]; exact Kd.N_lower (Kd.N_mono HN.out (fun k hk => hk.imp (fun h => h.1) id)) HSZ.out, HB1.out.trans (HBr.out.mono HSZ.out)⟩
end Go.Proofs.Ytdcdkckpmkfjdaa.L

namespace Go.Proofs.Ytdcdkckpmkfjdaa
open Go.RowKit Go.Proofs.YtdcdkckpmkfjdaaW.PrintWords Go.Proofs.YtdcdkckpmkfjdaaW.PrintLast Go.Proofs.YtdcdkckpmkfjdaaW.PrintMore
set_option linter.unusedVariables false
set_option linter.unusedSimpArgs false

def cnt1 (c : List Int) (x : Int) : List Int := c.set x.toNat (wrap64 (rd c x + 1))
def cntRow (row : List Int) (c : List Int) : List Int := row.foldl cnt1 c
def cntAll (T : List (List Int)) (c : List Int) : List Int := T.foldl (fun c r => cntRow r c) c
def cTo (K : List (List Int)) (c : List Int) (i : Nat) : List Int := cntAll (K.take i) c
theorem cnt1_length (c : List Int) (x : Int) : (cnt1 c x).length = c.length := by simp [cnt1]
theorem cntRow_length : ∀ (row c : List Int), (cntRow row c).length = c.length
 | [], c => rfl
 | x :: r, c => (cntRow_length r (cnt1 c x)).trans (cnt1_length c x)
theorem cntAll_length : ∀ (T : List (List Int)) (c : List Int), (cntAll T c).length = c.length
 | [], c => rfl
 | r :: T, c => (cntAll_length T (cntRow r c)).trans (cntRow_length r c)
theorem cTo_length (K : List (List Int)) (c : List Int) (i : Nat) : (cTo K c i).length = c.length := cntAll_length _ _
theorem cTo_end (K : List (List Int)) (c : List Int) (i : Nat) (h : K.length ≤ i) : cTo K c i = cntAll K c := by unfold cTo; rw [List.take_of_length_le h]
theorem cTo_succ (K : List (List Int)) (c : List Int) (i : Nat) (h : i < K.length) : cTo K c (i + 1) = cntRow (K.getD i []) (cTo K c i) := by
 unfold cTo cntAll
 rw [List.take_add_one, List.getElem?_eq_getElem h, List.foldl_append, List.getD_eq_getElem?_getD, List.getElem?_eq_getElem h]; rfl
theorem cntRow_succ (row c : List Int) (j : Nat) (h : j < row.length) : cntRow (row.take (j + 1)) c = cnt1 (cntRow (row.take j) c) (rd row j) := by
 unfold cntRow
 rw [List.take_add_one, List.getElem?_eq_getElem h, List.foldl_append, show rd row j = row[j] by simp [rd, List.getD_eq_getElem?_getD, h]]; rfl

set_option maxHeartbeats 4000000 in
set_option maxRecDepth 100000 in
theorem spec_weCounts.callsG (A0 : Option Addr) (c0 : Nat) (l0 K : List (List Int)) (w : World)
  (hk : ∀ W, Below w.heap.size w W → Calls Try.prog 120 #[.slice A0 l0.length c0] W fun e w' => ∃ v0_ : Value, e = .returned (v0_) ∧ Kd.S (Kd.slice 3 (Kd.int .i64)) 22 w' W.heap.size (fun _ => True) v0_ K ∧ Below W.heap.size W w')
  (hK : ∀ i j : Nat, i < K.length → j < (K.getD i []).length → 0 ≤ rd (K.getD i []) j ∧ rd (K.getD i []) j < 6) :
  Calls Try.prog 77 #[.slice A0 l0.length c0] w (RetR w (cntAll K (List.replicate 6 0))) := by
 have HKK := Aside0.mk hk
 have HKR := Aside0.mk hK
 clear hk hK
 have mk1 : ∀ W : World, Sem.run Try.prog (Instr.makeSlice 22 (.int .i64 6) (.int .i64 6)) W = Result.ok (Value.slice (some ⟨W.heap.size, 0, none⟩) 6 6) (W.alloc (.cells (madeCells #[.int .i64 0] 6) 3)) := fun W => run_make_row' (P := Try.prog) 22 3 (.int .i64 0) 8 Try.underlying22 info_ints rfl .i64 .i64 6 (by omega) (by omega) W
 have hst : intBlk (w.alloc (.cells (madeCells #[.int .i64 0] 6) 3)) w.heap.size (List.replicate 6 0) := by unfold intBlk; have := blk_new w (.cells (madeCells #[.int .i64 0] 6) 3); rw [madeInts] at this ⊢; exact this
 have HST := Aside0.mk hst
 have HB0 := Aside0.mk (below_alloc (Below.refl w.heap.size w) (.cells (madeCells #[.int .i64 0] 6) 3))
 have HSZ := Aside0.mk (show w.heap.size < (w.alloc (.cells (madeCells #[.int .i64 0] 6) 3)).heap.size by show w.heap.size < (w.heap.push _).size; rw [Array.size_push]; omega)
 clear hst
 obtain ⟨zs, hzs⟩ : ∃ z, z = List.replicate 6 (0 : Int) := ⟨_, rfl⟩
 have hzl : zs.length = 6 := by rw [hzs]; rfl
 rw [← hzs] at HST ⊢
 clear hzs
 have HZL := Aside0.mk hzl
 clear hzl
 go_enter Try.func77, Try.ntmps77
 go_wp2_with (go_at_call 120; refine (HKK.out _ HB0.out).mono ?_; rintro e w1 ⟨v, rfl, hS, hb⟩; obtain ⟨A1, c1, rfl⟩ := Kd.R_slice (Kd.S_R hS); have hln := (Kd.R_reads' (Kd.S_R hS)).2.2.2.1; have HS := Aside0.mk hS; have HI := Aside0.mk (show intBlk w1 w.heap.size zs from blk_below HST.out hb); have HB1 := Aside0.mk (below_step HB0.out hb); clear hS hb)
 go_loopg [5, 7, 12] K.length (fun gg s5 s7 s12 wr => ∃ i : Nat, i ≤ K.length ∧ K.length - i ≤ gg ∧ s12 = .int .i64 i ∧ Aside0 (intBlk wr w.heap.size (cTo K zs i)) ∧ Aside0 (Kept w1 wr (fun k => k = w.heap.size)) ∧ Aside0 (Below w.heap.size w wr))
 case atStart => exact ⟨0, Nat.zero_le _, Nat.le_refl _, rfl, HI, ⟨Kept.refl _ _⟩, HB1⟩
 case round =>
  clear HI HB1 HST HB0 HKK
  obtain ⟨i, hi, hg, rfl, HI, HKP, HB⟩ := hrel
  obtain ⟨wo, rfl⟩ : ∃ wo : World, wo = wr := ⟨_, rfl⟩
  by_cases hlt : i < K.length
  ·have hz : (i : Int) < (K.length : Int) := by omega
   obtain ⟨g0, A2, c2, e0, hrow⟩ := rowKept HS.out HSZ.out i hlt
   cases e0
   have HR := Aside0.mk hrow
   have hx := (hrow _ HKP.out).1
   have HKR2 := Aside0.mk (fun j => HKR.out i j hlt)
   have HNX := Aside0.mk (cTo_succ K zs i hlt)
   clear hrow
   obtain ⟨row, hrw⟩ : ∃ r, r = K.getD i [] := ⟨_, rfl⟩
   rw [← hrw] at HR hx HKR2 HNX
   clear hrw
   have hrl := (HR.out _ HKP.out).2.2.2.1
   go_wp2
   go_loopg [7, 18] row.length (fun gj s7 s18 wr2 => ∃ j : Nat, j ≤ row.length ∧ row.length - j ≤ gj ∧ s18 = .int .i64 j ∧ Aside0 (intBlk wr2 w.heap.size (cntRow (row.take j) (cTo K zs i))) ∧ Aside0 (Kept w1 wr2 (fun k => k = w.heap.size)) ∧ Aside0 (Below w.heap.size w wr2))
   case atStart => exact ⟨0, Nat.zero_le _, Nat.le_refl _, rfl, HI, HKP, HB⟩
   case round =>
    clear HI HKP HB hx
    obtain ⟨j, hj, hgj, rfl, HI, HKP, HB⟩ := hrel
    by_cases hjt : j < row.length
    ·have hjz : (j : Int) < (row.length : Int) := by omega
     obtain ⟨ad, e1, hy⟩ := Kd.at_int (HR.out _ HKP.out).2.2 (j : Int) (by omega) hjz
     cases e1
     simp only [Int.toNat_natCast] at hy
     have hxr := HKR2.out j hjt
     have HC1 := Aside0.mk (cntRow_succ row (cTo K zs i) j hjt)
     obtain ⟨x, hxx⟩ : ∃ x, x = rd row j := ⟨_, rfl⟩
     rw [← hxx] at hy hxr HC1
     clear hxx
     obtain ⟨n, rfl⟩ := Int.eq_ofNat_of_zero_le hxr.1
     obtain ⟨cs, hcs⟩ : ∃ c, c = cntRow (row.take j) (cTo K zs i) := ⟨_, rfl⟩
     have hcl : cs.length = 6 := by rw [hcs, cntRow_length, cTo_length, HZL.out]
     rw [← hcs] at HI HC1
     clear hcs
     have hn6 : n < 6 := by omega
     have hn6z : (n : Int) < 6 := by omega
     have hcell := (blk_cell HI.out n).trans (show ((cs.map (Value.int .i64)).toArray[n]?) = some (.int .i64 (rd cs n)) by simp [rd, List.getD_eq_getElem?_getD, show n < cs.length by omega])
     have hfz := blk_frozen HI.out n
     have HP := Aside0.mk (show intBlk (wr.setCell ⟨w.heap.size, n, none⟩ (.int .i64 (wrap64 (rd cs n + 1)))) w.heap.size (cnt1 cs n) from blk_put HI.out n _ (by simp [cnt1]))
     have HK2 := Aside0.mk (HKP.out.setCell (p := ⟨w.heap.size, n, none⟩) (.inl rfl) (.int .i64 (wrap64 (rd cs n + 1))))
     have HB2 := Aside0.mk (HB.out.setCell (show w.heap.size ≤ (⟨w.heap.size, n, none⟩ : Addr).block from Nat.le_refl _) (.int .i64 (wrap64 (rd cs n + 1))))
     clear hxr hcl
     go_wp2
     go_roundg (row.length - (j + 1))
     case measure => omega
     case rel => exact ⟨j + 1, by omega, by omega, by go_num, by rw [HC1.out]; exact HP, HK2, HB2⟩
    ·have hjz : ¬ (j : Int) < (row.length : Int) := by omega
     have hjc : row.length ≤ j := by omega
     rw [List.take_of_length_le hjc, ← HNX.out] at HI
     go_wp2
     go_roundg (K.length - (i + 1))
     case measure => omega
     case rel => exact ⟨i + 1, by omega, by omega, by go_num, HI, HKP, HB⟩
  ·have hz : ¬ (i : Int) < (K.length : Int) := by omega
   have hir : K.length ≤ i := by omega
   rw [cTo_end K zs i hir] at HI
   have hR := intBlk_R (ok := fun _ => True) HI.out (Nat.le_refl _) trivial (by rw [cntAll_length, HZL.out]; omega)
   rw [cntAll_length, HZL.out] at hR
   have HRR := Aside0.mk hR
   clear hR
   go_wp2
   go_ret
   exact ⟨_, rfl, HRR.out, HB.out⟩

set_option maxHeartbeats 4000000 in
set_option maxRecDepth 100000 in
theorem impl_kindCounts.callsG (A0 : Option Addr) (c0 : Nat) (l0 K : List (List Int)) (w : World)
  (hk : ∀ W, Below w.heap.size w W → Calls Try.prog 146 #[.slice A0 l0.length c0] W fun e w' => ∃ v0_ : Value, e = .returned (v0_) ∧ Kd.S (Kd.slice 3 (Kd.int .i64)) 22 w' W.heap.size (fun _ => True) v0_ K ∧ Below W.heap.size W w')
  (hK : ∀ i j : Nat, i < K.length → j < (K.getD i []).length → 0 ≤ rd (K.getD i []) j ∧ rd (K.getD i []) j < 6) :
  Calls Try.prog 117 #[.slice A0 l0.length c0] w (RetR w (cntAll K (List.replicate 6 0))) := by
 have HKK := Aside0.mk hk
 have HKR := Aside0.mk hK
 clear hk hK
 have mk1 : ∀ W : World, Sem.run Try.prog (Instr.makeSlice 22 (.int .i64 6) (.int .i64 6)) W = Result.ok (Value.slice (some ⟨W.heap.size, 0, none⟩) 6 6) (W.alloc (.cells (madeCells #[.int .i64 0] 6) 3)) := fun W => run_make_row' (P := Try.prog) 22 3 (.int .i64 0) 8 Try.underlying22 info_ints rfl .i64 .i64 6 (by omega) (by omega) W
 have hst : intBlk (w.alloc (.cells (madeCells #[.int .i64 0] 6) 3)) w.heap.size (List.replicate 6 0) := by unfold intBlk; have := blk_new w (.cells (madeCells #[.int .i64 0] 6) 3); rw [madeInts] at this ⊢; exact this
 have HST := Aside0.mk hst
 have HB0 := Aside0.mk (below_alloc (Below.refl w.heap.size w) (.cells (madeCells #[.int .i64 0] 6) 3))
 have HSZ := Aside0.mk (show w.heap.size < (w.alloc (.cells (madeCells #[.int .i64 0] 6) 3)).heap.size by show w.heap.size < (w.heap.push _).size; rw [Array.size_push]; omega)
 clear hst
 obtain ⟨zs, hzs⟩ : ∃ z, z = List.replicate 6 (0 : Int) := ⟨_, rfl⟩
 have hzl : zs.length = 6 := by rw [hzs]; rfl
 rw [← hzs] at HST ⊢
 clear hzs
 have HZL := Aside0.mk hzl
 clear hzl
 go_enter Try.func117, Try.ntmps117
 go_wp2_with (go_at_call 146; refine (HKK.out _ HB0.out).mono ?_; rintro e w1 ⟨v, rfl, hS, hb⟩; obtain ⟨A1, c1, rfl⟩ := Kd.R_slice (Kd.S_R hS); have hln := (Kd.R_reads' (Kd.S_R hS)).2.2.2.1; have HS := Aside0.mk hS; have HI := Aside0.mk (show intBlk w1 w.heap.size zs from blk_below HST.out hb); have HB1 := Aside0.mk (below_step HB0.out hb); clear hS hb)
 go_loopg [5, 7, 12] K.length (fun gg s5 s7 s12 wr => ∃ i : Nat, i ≤ K.length ∧ K.length - i ≤ gg ∧ s12 = .int .i64 i ∧ Aside0 (intBlk wr w.heap.size (cTo K zs i)) ∧ Aside0 (Kept w1 wr (fun k => k = w.heap.size)) ∧ Aside0 (Below w.heap.size w wr))
 case atStart => exact ⟨0, Nat.zero_le _, Nat.le_refl _, rfl, HI, ⟨Kept.refl _ _⟩, HB1⟩
 case round =>
  clear HI HB1 HST HB0 HKK
  obtain ⟨i, hi, hg, rfl, HI, HKP, HB⟩ := hrel
  obtain ⟨wo, rfl⟩ : ∃ wo : World, wo = wr := ⟨_, rfl⟩
  by_cases hlt : i < K.length
  ·have hz : (i : Int) < (K.length : Int) := by omega
   obtain ⟨g0, A2, c2, e0, hrow⟩ := rowKept HS.out HSZ.out i hlt
   cases e0
   have HR := Aside0.mk hrow
   have hx := (hrow _ HKP.out).1
   have HKR2 := Aside0.mk (fun j => HKR.out i j hlt)
   have HNX := Aside0.mk (cTo_succ K zs i hlt)
   clear hrow
   obtain ⟨row, hrw⟩ : ∃ r, r = K.getD i [] := ⟨_, rfl⟩
   rw [← hrw] at HR hx HKR2 HNX
   clear hrw
   have hrl := (HR.out _ HKP.out).2.2.2.1
   go_wp2
   go_loopg [7, 18] row.length (fun gj s7 s18 wr2 => ∃ j : Nat, j ≤ row.length ∧ row.length - j ≤ gj ∧ s18 = .int .i64 j ∧ Aside0 (intBlk wr2 w.heap.size (cntRow (row.take j) (cTo K zs i))) ∧ Aside0 (Kept w1 wr2 (fun k => k = w.heap.size)) ∧ Aside0 (Below w.heap.size w wr2))
   case atStart => exact ⟨0, Nat.zero_le _, Nat.le_refl _, rfl, HI, HKP, HB⟩
   case round =>
    clear HI HKP HB hx
    obtain ⟨j, hj, hgj, rfl, HI, HKP, HB⟩ := hrel
    by_cases hjt : j < row.length
    ·have hjz : (j : Int) < (row.length : Int) := by omega
     obtain ⟨ad, e1, hy⟩ := Kd.at_int (HR.out _ HKP.out).2.2 (j : Int) (by omega) hjz
     cases e1
     simp only [Int.toNat_natCast] at hy
     have hxr := HKR2.out j hjt
     have HC1 := Aside0.mk (cntRow_succ row (cTo K zs i) j hjt)
     obtain ⟨x, hxx⟩ : ∃ x, x = rd row j := ⟨_, rfl⟩
     rw [← hxx] at hy hxr HC1
     clear hxx
     obtain ⟨n, rfl⟩ := Int.eq_ofNat_of_zero_le hxr.1
     obtain ⟨cs, hcs⟩ : ∃ c, c = cntRow (row.take j) (cTo K zs i) := ⟨_, rfl⟩
     have hcl : cs.length = 6 := by rw [hcs, cntRow_length, cTo_length, HZL.out]
     rw [← hcs] at HI HC1
     clear hcs
     have hn6 : n < 6 := by omega
     have hn6z : (n : Int) < 6 := by omega
     have hcell := (blk_cell HI.out n).trans (show ((cs.map (Value.int .i64)).toArray[n]?) = some (.int .i64 (rd cs n)) by simp [rd, List.getD_eq_getElem?_getD, show n < cs.length by omega])
     have hfz := blk_frozen HI.out n
     have HP := Aside0.mk (show intBlk (wr.setCell ⟨w.heap.size, n, none⟩ (.int .i64 (wrap64 (rd cs n + 1)))) w.heap.size (cnt1 cs n) from blk_put HI.out n _ (by simp [cnt1]))
     have HK2 := Aside0.mk (HKP.out.setCell (p := ⟨w.heap.size, n, none⟩) (.inl rfl) (.int .i64 (wrap64 (rd cs n + 1))))
     have HB2 := Aside0.mk (HB.out.setCell (show w.heap.size ≤ (⟨w.heap.size, n, none⟩ : Addr).block from Nat.le_refl _) (.int .i64 (wrap64 (rd cs n + 1))))
     clear hxr hcl
     go_wp2
     go_roundg (row.length - (j + 1))
     case measure => omega
     case rel => exact ⟨j + 1, by omega, by omega, by go_num, by rw [HC1.out]; exact HP, HK2, HB2⟩
    ·have hjz : ¬ (j : Int) < (row.length : Int) := by omega
     have hjc : row.length ≤ j := by omega
     rw [List.take_of_length_le hjc, ← HNX.out] at HI
     go_wp2
     go_roundg (K.length - (i + 1))
     case measure => omega
     case rel => exact ⟨i + 1, by omega, by omega, by go_num, HI, HKP, HB⟩
  ·have hz : ¬ (i : Int) < (K.length : Int) := by omega
   have hir : K.length ≤ i := by omega
   rw [cTo_end K zs i hir] at HI
   have hR := intBlk_R (ok := fun _ => True) HI.out (Nat.le_refl _) trivial (by rw [cntAll_length, HZL.out]; omega)
   rw [cntAll_length, HZL.out] at hR
   have HRR := Aside0.mk hR
   clear hR
   go_wp2
   go_ret
   exact ⟨_, rfl, HRR.out, HB.out⟩
end Go.Proofs.Ytdcdkckpmkfjdaa
