/- Texts of one chain, in build order. -/
import Derived.Test.YthlgclfhoeakgaaYBCountOrbitsCountFixedOrbitLengths42
namespace Go.Proofs.Ythlgclfhoeakgaa.L
open Go.RowKit Go.Proofs.Ythlgclfhoeakgaa Go.Proofs.Ythlgclfhoeakgaa.P Go.Proofs.YthlgclfhoeakgaaW.PrintWords Go.Proofs.YthlgclfhoeakgaaW.PrintLast Go.Proofs.YthlgclfhoeakgaaW.PrintMore
set_option maxRecDepth 100000
theorem oc_5 : OcOk 5 := ⟨oc5_es, oc5_len, fun q hq => by
 have e : q = 0 ∨ q = 1 ∨ q = 2 ∨ q = 3 ∨ q = 4 ∨ q = 5 := by omega
 rcases e with rfl | rfl | rfl | rfl | rfl | rfl
 ·exact oc5_flip0
 ·exact oc5_flip1
 ·exact oc5_flip2
 ·exact oc5_flip3
 ·exact oc5_flip4
 ·exact oc5_flip5, oc5_all, oc5_txs⟩
theorem oc_all {n : Nat} (h0 : 1 ≤ n) (h1 : n ≤ 5) : OcOk n := by
 have e : n = 1 ∨ n = 2 ∨ n = 3 ∨ n = 4 ∨ n = 5 := by omega
 rcases e with rfl | rfl | rfl | rfl | rfl
 ·exact oc_1
 ·exact oc_2
 ·exact oc_3
 ·exact oc_4
 ·exact oc_5
end Go.Proofs.Ythlgclfhoeakgaa.L

namespace Go.Proofs.Ythlgclfhoeakgaa.L
open Go.RowKit Go.Maps Go.Proofs.Ythlgclfhoeakgaa Go.Proofs.Ythlgclfhoeakgaa.P Go.Proofs.YthlgclfhoeakgaaW.PrintWords Go.Proofs.YthlgclfhoeakgaaW.PrintLast Go.Proofs.YthlgclfhoeakgaaW.PrintMore
set_option linter.unusedVariables false
set_option linter.unusedSimpArgs false

theorem heap_grewO {W W' : World} {m : Nat} (h : m ≤ W.heap.size) (he : ∀ k, k < m → W'.heap[k]? = W.heap[k]?) : m ≤ W'.heap.size := by
  rcases Nat.eq_zero_or_pos m with h0 | h0
  · omega
  · have h1 := he (m - 1) (by omega)
    rw [Array.getElem?_eq_getElem (show m - 1 < W.heap.size by omega)] at h1
    have := (Array.getElem?_eq_some_iff.1 h1).1
    omega
/-- The state: the variable bo holds the lengths, the variable bv the map bm of the texts that have been seen. -/
def OlSt (W0 : World) (B bo bv bm : Nat) (cs : Nat → List Int) (Ss : Nat → List (List UInt8)) (j : Nat) (W : World) (ok : Nat → Prop) : Prop :=
  ∃ v, (ok = fun k => k < W0.heap.size ∨ some k = v.ownBlock) ∧ W0.heap.size ≤ W.heap.size ∧ (∀ k, k < B → W.heap[k]? = W0.heap[k]?) ∧ W.heap[bo]? = some (.cells #[v] 34 (0, 0)) ∧ W.heap[bv]? = some (.cells #[.map (some bm)] 49 (0, 0)) ∧ Seen W bm (Ss j) ∧ Kd.R (Kd.int .i64) 3 W B (fun k => k ≠ bo ∧ k ≠ bv ∧ k ≠ bm) v (cs j)
theorem OlSt.stays (W0 : World) (B bo bv bm : Nat) (cs : Nat → List Int) (Ss : Nat → List (List UInt8)) (hB : B ≤ W0.heap.size) (hbo : bo < W0.heap.size) (hbv : bv < W0.heap.size) (hbm : bm < W0.heap.size) : Stays (OlSt W0 B bo bv bm cs Ss) := by
  refine ⟨?_, ?_⟩
  · rintro j W ok ⟨v, rfl, hs, _, _, _, _, hR⟩ k hk
    rcases hk with h | h
    · omega
    · exact Kd.R_lt hR k h.symm
  · rintro j W W' ok ⟨v, rfl, hs, hB2, hc, hv, hm2, hR⟩ hm
    have hg := heap_grewO hs (fun k hk => hm k (.inl hk))
    refine ⟨v, rfl, hg, fun k hk => (hm k (.inl (by omega))).trans (hB2 k hk), (hm bo (.inl hbo)).trans hc, (hm bv (.inl hbv)).trans hv, hm2.eq (hm bm (.inl hbm)), ?_⟩
    exact Kd.R_mono (Kd.R_step (Kd.R_tight2 rfl hR) (fun k hk _ => hm k (.inr hk.1))) (fun k hk => hk.2)
/-- What is known of the table j: its text, and its orbit if it has not been seen. -/
def OlOk (All : List (List (List Int))) (cs : Nat → List Int) (Ss : Nat → List (List UInt8)) : Prop :=
  ∀ (j : Nat) (T : List (List Int)), All[j]? = some T → (Ss j).length ≤ 500000 ∧ (cs j).length ≤ 1000 ∧ ∃ (k : Nat) (tx : ByteArray), impl_signText.f k T = some tx ∧ tx.size ≤ 1000 ∧
    ((tx.data.toList ∈ Ss j ∧ Ss (j + 1) = Ss j ∧ cs (j + 1) = cs j) ∨
     (tx.data.toList ∉ Ss j ∧ ∃ (O : List (List (List Int))) (b : Bool) (tS : List ByteArray), impl_orbit.f k T = some (O, b) ∧ O.length ≤ 1000 ∧ tS.length = O.length ∧ (∀ i : Nat, i < O.length → impl_signText.f k (O.getD i []) = some (tS.getD i ⟨#[]⟩) ∧ (tS.getD i ⟨#[]⟩).size ≤ 1000) ∧
       Ss (j + 1) = Ss j ++ tS.map (fun s => s.data.toList) ∧ cs (j + 1) = cs j ++ [(O.length : Int)]))
/-- The lengths have been changed (a number appended). -/
theorem ol_app {W w4 : World} {B bo bv bm : Nat} {v v4 : Value} {y : List Int} (hcell : W.heap[bo]? = some (.cells #[v] 34 (0, 0))) (hv : ∀ k, some k = v.ownBlock → k ≠ bo)
    (hg : W.grownBy w4 v.ownBlock) (ho : Kd.R (Kd.int .i64) 3 w4 B (fun k => k ≠ bo ∧ k ≠ bv ∧ k ≠ bm) v4 y) (hat : v4.ownBlock = v.ownBlock ∨ ∃ b, v4.ownBlock = some b ∧ W.heap.size ≤ b) :
    w4.cell? ⟨bo, 0, none⟩ = some v ∧ w4.frozen? ⟨bo, 0, none⟩ = false ∧ (w4.setCell ⟨bo, 0, none⟩ v4).heap[bo]? = some (.cells #[v4] 34 (0, 0)) ∧ Kd.R (Kd.int .i64) 3 (w4.setCell ⟨bo, 0, none⟩ v4) B (fun k => k ≠ bo ∧ k ≠ bv ∧ k ≠ bm) v4 y ∧ Touch W (w4.setCell ⟨bo, 0, none⟩ v4) (tD bo v) ∧ (∀ k, some k = v4.ownBlock → some k = v.ownBlock ∨ W.heap.size ≤ k) := by
  have ht : Touch W w4 (fun k => some k = v.ownBlock) := ⟨hg.os, hg.tape, hg.output, hg.size, fun i hi hn => hg.block i hi hn⟩
  have h1 := ht.blk hcell (fun e => hv _ e rfl)
  refine ⟨blk_cell h1 0, blk_frozen h1 0, blk_put h1 0 v4 rfl, Kd.R_far ho (fun k hk => hk.1) v4, (ht.mono (fun k hk => .inr hk)).set ⟨bo, 0, none⟩ (.inl (.inl rfl)) v4, fun k hk => ?_⟩
  rcases hat with e | ⟨b, e, hle⟩
  · exact .inl (hk.trans e)
  · rw [e] at hk; injection hk with hk; exact .inr (by omega)
set_option maxHeartbeats 4000000 in
set_option maxRecDepth 100000 in
theorem ol_seen.calls (W0 : World) (B bo bv bm : Nat) (cs : Nat → List Int) (Ss : Nat → List (List UInt8)) (hB : B ≤ W0.heap.size) (hbo : bo < W0.heap.size) (hbv : bv < W0.heap.size) (hbm : bm < W0.heap.size)
    (j : Nat) (T : List (List Int)) (A : Option Addr) (c : Nat) (W : World) (ok : Nat → Prop) (k : Nat) (tx : ByteArray) (htx : impl_signText.f k T = some tx) (hsz : tx.size ≤ 1000) (hin : tx.data.toList ∈ Ss j) (hS : Ss (j + 1) = Ss j) (hcs : cs (j + 1) = cs j)
    (hst : OlSt W0 B bo bv bm cs Ss j W ok) (hF : Kd.F (Kd.slice 3 (Kd.int .i64)) W (fun k => ¬ ok k ∧ k < W.heap.size) A T.length T) (hc : T.length ≤ c) :
    Calls Try.prog 36 (#[.slice A T.length c] ++ #[.pointer (some ⟨bv, 0, none⟩), .pointer (some ⟨bo, 0, none⟩)]) W (Stepped (OlSt W0 B bo bv bm cs Ss) (j + 1) W ok) := by
  have HSTY := Aside0.mk (OlSt.stays W0 B bo bv bm cs Ss hB hbo hbv hbm)
  have HST := Aside0.mk hst
  have HTX := Aside0.mk (fun W' (hb : Below W.heap.size W W') => impl_signText.calls k A c T tx W' (Kd.F_now (Kd.F_below hF hb)) hc htx)
  obtain ⟨v, _, _, _, _, hcv, hsn, _⟩ := hst
  have hk1 : W.cell? ⟨bv, 0, none⟩ = some (.map (some bm)) := blk_cell hcv 0
  have HLK := Aside0.mk (fun W' (hb : Below W.heap.size W W') => by have h := (hsn.below hb).look hsz; rw [decide_eq_true hin] at h; exact h)
  have HBC := Aside0.mk (Below.refl W.heap.size W)
  have HEQ := Aside0.mk (And.intro hS hcs)
  clear htx hF hcv hsn hin hS hcs hB hbo hbv hbm
  go_enter Try.func36, Try.ntmps36
  go_wp2
  go_region_law (first
      | (go_simp; go_at_call 37; (refine (HTX.out _ ?hbY).mono ?_); (case hbY => exact (by repeat (first | exact HBC.out | refine below_drew ?_))); rintro e w1 ⟨rfl, hb⟩; have n_ := fun h => Aside0.mk (Below.trans (B := W.heap.size) h (hb.mono (Below.size h))); have m_ := n_ (by repeat (first | exact HBC.out | refine below_drew ?_)); clear n_ HBC; have HBC := m_; clear m_; have hq1 := pw_cell_below HBC.out hk1; have hq2 := HLK.out w1 HBC.out; clear hb))
  all_goals
    go_wp2
    go_ret
    have h2 := HSTY.out.below HST.out HBC.out
    refine ⟨rfl, ok, ?_, Touch.of_below HBC.out _, fun k h => .inl h⟩
    unfold OlSt at h2 ⊢
    rw [HEQ.out.1, HEQ.out.2]
    exact h2
set_option maxHeartbeats 8000000 in
set_option maxRecDepth 100000 in
theorem ol_new.calls (W0 : World) (B bo bv bm : Nat) (cs : Nat → List Int) (Ss : Nat → List (List UInt8)) (hB : B ≤ W0.heap.size) (hbo : bo < W0.heap.size) (hbv : bv < W0.heap.size) (hbm : bm < W0.heap.size) (hBo : B ≤ bo) (hBm : B ≤ bm)
    (j : Nat) (T : List (List Int)) (A : Option Addr) (c : Nat) (W : World) (ok : Nat → Prop) (k : Nat) (tx : ByteArray) (htx : impl_signText.f k T = some tx) (hsz : tx.size ≤ 1000) (hin : tx.data.toList ∉ Ss j) (hSl : (Ss j).length ≤ 500000) (hcl : (cs j).length ≤ 1000)
    (O : List (List (List Int))) (b : Bool) (tS : List ByteArray) (hO : impl_orbit.f k T = some (O, b)) (hOl : O.length ≤ 1000) (htl : tS.length = O.length) (htS : ∀ i : Nat, i < O.length → impl_signText.f k (O.getD i []) = some (tS.getD i ⟨#[]⟩) ∧ (tS.getD i ⟨#[]⟩).size ≤ 1000) (hS : Ss (j + 1) = Ss j ++ tS.map (fun s => s.data.toList)) (hcs : cs (j + 1) = cs j ++ [(O.length : Int)])
    (hst : OlSt W0 B bo bv bm cs Ss j W ok) (hF : Kd.F (Kd.slice 3 (Kd.int .i64)) W (fun k => ¬ ok k ∧ k < W.heap.size) A T.length T) (hc : T.length ≤ c) :
    Calls Try.prog 36 (#[.slice A T.length c] ++ #[.pointer (some ⟨bv, 0, none⟩), .pointer (some ⟨bo, 0, none⟩)]) W (Stepped (OlSt W0 B bo bv bm cs Ss) (j + 1) W ok) := by
  have HTX := Aside0.mk (fun W' (hb : Below W.heap.size W W') => impl_signText.calls k A c T tx W' (Kd.F_now (Kd.F_below hF hb)) hc htx)
  have HOR := Aside0.mk (fun W' (hb : Below W.heap.size W W') => impl_orbit.calls k A c T O b W' (Kd.F_now (Kd.F_below hF hb)) hc hO)
  obtain ⟨v, rfl, hsz0, hlow, hco, hcv, hsn, hR⟩ := hst
  obtain ⟨A0, c0, rfl⟩ := Kd.R_slice hR
  have hnv : bv ≠ bm := fun e => by
    obtain ⟨es, clock, h1, _⟩ := hsn
    rw [← e, hcv] at h1
    cases h1
  have hno : bo ≠ bm := fun e => by
    obtain ⟨es, clock, h1, _⟩ := hsn
    rw [← e, hco] at h1
    cases h1
  have hk1 : W.cell? ⟨bv, 0, none⟩ = some (.map (some bm)) := blk_cell hcv 0
  have HLK := Aside0.mk (fun W' (hb : Below W.heap.size W W') => by have h := (hsn.below hb).look hsz; rw [decide_eq_false hin] at h; exact h)
  have HBC := Aside0.mk (Below.refl W.heap.size W)
  have HEQ := Aside0.mk (And.intro hS hcs)
  have HLOW := Aside0.mk hlow
  have HCO := Aside0.mk hco
  have HCV := Aside0.mk hcv
  have HSN := Aside0.mk hsn
  have HR := Aside0.mk hR
  have HNV := Aside0.mk hnv
  have HNO := Aside0.mk hno
  have HTS := Aside0.mk htS
  have HTL := Aside0.mk htl
  have HSZ := Aside0.mk hsz0
  have HSL := Aside0.mk hSl
  have HCL := Aside0.mk hcl
  have HBMW := Aside0.mk (show bm < W.heap.size by omega)
  clear htx hF hcv hsn hin hS hcs hO hco hR hlow htS htl hsz0 hSl hcl hnv hno
  go_enter Try.func36, Try.ntmps36
  go_wp2
  go_region_law (first
      | (go_simp; go_at_call 37; (refine (HTX.out _ ?hbY).mono ?_); (case hbY => exact (by repeat (first | exact HBC.out | refine below_drew ?_))); rintro e w1 ⟨rfl, hb⟩; have n_ := fun h => Aside0.mk (Below.trans (B := W.heap.size) h (hb.mono (Below.size h))); have m_ := n_ (by repeat (first | exact HBC.out | refine below_drew ?_)); clear n_ HBC; have HBC := m_; clear m_; have hq1 := pw_cell_below HBC.out hk1; have hq2 := HLK.out w1 HBC.out; clear hb))
  all_goals
    clear hq1 hq2
    go_wp2_with (go_at_call 38; refine (HOR.out _ (by repeat (first | exact HBC.out | refine below_drew ?_))).mono ?_; rintro e w2 ⟨v2, rfl, hN, hb⟩; obtain ⟨AO, cO, rfl⟩ := Kd.N_slice hN; have HB2 := Aside0.mk (show Below W.heap.size W w2 from Below.trans (B := W.heap.size) (by repeat (first | exact HBC.out | refine below_drew ?_)) (hb.mono HBC.out.size)); have HOF := Aside0.mk (Kd.F_mono (ok' := fun k => W.heap.size ≤ k) (Kd.N_F hN) (fun k hk => Nat.le_trans HBC.out.size hk)); clear hN hb)
    go_loopg [20] O.length (fun gg s20 wr => ∃ i : Nat, i ≤ O.length ∧ O.length - i ≤ gg ∧ s20 = .int .i64 i ∧ Aside0 (Seen wr bm (Ss j ++ (tS.take i).map (fun s => s.data.toList))) ∧ Aside0 (Touch W wr (fun k => k = bm)) ∧ Aside0 (Kd.F (Kd.slice 34 (Kd.slice 3 (Kd.int .i64))) wr (fun k => W.heap.size ≤ k) AO O.length O))
    case atStart => exact ⟨0, Nat.zero_le _, Nat.le_refl _, rfl, ⟨by rw [List.take_zero, List.map_nil, List.append_nil]; exact HSN.out.below HB2.out⟩, ⟨Touch.of_below HB2.out _⟩, HOF⟩
    case round =>
      clear HOF HBC HB2 HTX HOR HLK
      obtain ⟨i, hi, hg, rfl, HSE, HT, HOF⟩ := hrel
      by_cases hlt : i < O.length
      · have hz : (i : Int) < (O.length : Int) := by omega
        obtain ⟨ad, cc, hA, hcl1, hFK, hcell, _⟩ := Kd.F_get HOF.out ([] : List (List Int)) (i : Int) (by omega) (by omega)
        subst hA
        obtain ⟨At, ct, rfl, hct, hFx⟩ := Kd.FK_slice_open hFK
        have hx := hcell 0 _ rfl
        rw [Int.toNat_natCast, show (Kd.slice 34 (Kd.slice 3 (Kd.int .i64))).sz = 1 from rfl, Nat.mul_one, Nat.add_zero] at hx
        rw [Int.toNat_natCast] at hct hFx
        obtain ⟨hti, hts⟩ := HTS.out i hlt
        obtain ⟨T2, hT2⟩ : ∃ T2, T2 = O.getD i [] := ⟨_, rfl⟩
        rw [← hT2] at hct hFx hti hx
        obtain ⟨s2, hs2⟩ : ∃ s2, s2 = tS.getD i ⟨#[]⟩ := ⟨_, rfl⟩
        rw [← hs2] at hti hts
        have HTX := Aside0.mk (fun W' (hb : Below wr.heap.size wr W') => impl_signText.calls k At ct T2 s2 W' (Kd.F_now (Kd.F_below hFx hb)) hct hti)
        have HCV2 := Aside0.mk (HT.out.blk HCV.out (fun e => HNV.out e))
        have hk1 : wr.cell? ⟨bv, 0, none⟩ = some (.map (some bm)) := blk_cell HCV2.out 0
        have HBC := Aside0.mk (Below.refl wr.heap.size wr)
        have HLEN := Aside0.mk (show (Ss j ++ (tS.take i).map (fun s => s.data.toList)).length ≤ 1000000 by have := HSL.out; have := HTL.out; rw [List.length_append, List.length_map, List.length_take]; omega)
        have HTK := Aside0.mk (show (tS.take (i + 1)).map (fun s => s.data.toList) = (tS.take i).map (fun s => s.data.toList) ++ [s2.data.toList] by
          have h : i < tS.length := by have := HTL.out; omega
          rw [List.take_succ_eq_append_getElem h, List.map_append, hs2, List.getD_eq_getElem?_getD, List.getElem?_eq_getElem h]; rfl)
        clear hFK hcell hcl1 hFx hti hT2 hs2
        go_wp2
        go_region_law (first
          | (go_simp; go_at_call 37; (refine (HTX.out _ ?hbY).mono ?_); (case hbY => exact (by repeat (first | exact HBC.out | refine below_drew ?_))); rintro e w3 ⟨rfl, hb⟩; have n_ := fun h => Aside0.mk (Below.trans (B := wr.heap.size) h (hb.mono (Below.size h))); have m_ := n_ (by repeat (first | exact HBC.out | refine below_drew ?_)); clear n_ HBC; have HBC := m_; clear m_; have hq1 := pw_cell_below HBC.out hk1; have HS3 := Aside0.mk (HSE.out.below HBC.out); obtain ⟨w4, hrun4, hs4, hg4⟩ := HS3.out.put HLEN.out hts; have HS4 := Aside0.mk hs4; have HG4 := Aside0.mk hg4; clear hs4 hg4 hb))
        all_goals
          go_wp2
          go_roundg (O.length - (i + 1))
          case measure => omega
          case rel =>
            have ht3 := HT.out.then_below HBC.out
            have ht4 : Touch W _ (fun k => k = bm) := ht3.trans ⟨HG4.out.os, HG4.out.tape, HG4.out.output, HG4.out.size, fun q hq hn => HG4.out.block q hq (fun e => hn (by injection e))⟩ (fun q (hq : q = bm) => .inl hq)
            exact ⟨i + 1, by omega, by omega, by go_num, ⟨by rw [HTK.out, ← List.append_assoc]; exact HS4.out⟩, ⟨ht4⟩, ⟨Kd.F_grown (Kd.F_below HOF.out HBC.out) HG4.out (fun q hq e => by injection e with e; have := HBMW.out; omega)⟩⟩
      · have hz : ¬ (i : Int) < (O.length : Int) := by omega
        have hie : i = O.length := by omega
        have HIE := Aside0.mk hie
        clear hie
        have HE2 := Aside0.mk (HT.out.blk HCO.out (fun e => HNO.out e))
        have hk2 : wr.cell? ⟨bo, 0, none⟩ = some (.slice A0 (cs j).length c0) := blk_cell HE2.out 0
        have HR2 := Aside0.mk (Kd.R_step HR.out (fun q hq hlt => HT.out.heap hlt (fun e => hq.2.2 e)))
        have HBW := Aside0.mk (show B ≤ wr.heap.size by have := HT.out.size; have := HSZ.out; omega)
        have HWW := Aside0.mk (show W0.heap.size ≤ wr.heap.size by have := HT.out.size; have := HSZ.out; omega)
        have hOz : (O.length : Int) ≤ 1000 := by omega
        go_wp2_with ((with_reducible refine gate_builtin (b := .append) (xs := #[.tmp 28, .tmp 31]) rfl ?_); at_builtin; refine Kd.R_append (Kd.int .i64) (w0 := wr) B rfl (.tmp 28) (.tmp 31) 34 3 (.int .i64 0) 8 rfl Try.underlying34 info_ints rfl (by decide) (by omega) (.slice A0 (cs j).length c0) (cs j) (O.length : Int) [.int .i64 O.length] (fun k => k ≠ bo ∧ k ≠ bv ∧ k ≠ bm) (fun _ => False) rfl rfl ?aP (fun _ hk => hk.elim) ?aF ?aO ?aB ?aS ?aL ?_; (case aP => exact rfl); (case aB => exact Below.refl _ _); (case aF => exact (fun q hq => by have := HWW.out; omega)); (case aO => exact HR2.out); (case aS => exact HBW.out); (case aL => have := HCL.out; omega); intro v8 w8 ho hb hg hat; obtain ⟨A8, c8, rfl⟩ := Kd.R_slice ho; obtain ⟨hk8, hf8, he8, hs8, ht8, hv8⟩ := ol_app HE2.out (fun q e => (HR.out.1 q e.symm).1) hg ho hat; have HE8 := Aside0.mk he8; have HS8 := Aside0.mk hs8; have HT8 := Aside0.mk ht8; have HV8 := Aside0.mk hv8; clear ho hb hg hat he8 hs8 ht8 hv8)
        go_ret
        have hnr : ∀ q, some q = (Value.slice A0 (cs j).length c0).ownBlock → q ≠ bo ∧ q ≠ bv ∧ q ≠ bm := fun q e => HR.out.1 q e.symm
        have hnbo : bv ≠ bo := fun e => by have h1 := HCV.out; rw [e, HCO.out] at h1; cases h1
        have HSE8 := Aside0.mk (HSE.out.eq (HT8.out.heap (Nat.lt_of_lt_of_le HBMW.out HT.out.size) (by
          rintro (e | e)
          · exact HNO.out e.symm
          · exact (hnr bm e).2.2 rfl)))
        have HTF := Aside0.mk ((HT.out.mono (S' := fun q => q = bm ∨ q = bo ∨ some q = (Value.slice A0 (cs j).length c0).ownBlock) (fun q h => .inl h)).trans HT8.out (fun q hq => .inl (.inr hq)))
        rw [show (cs j).length + 1 = (cs j ++ [(O.length : Int)]).length by rw [List.length_append]; rfl]
        refine ⟨rfl, _, ⟨_, rfl, Nat.le_trans HSZ.out HTF.out.size, ?_, HE8.out, ?_, ?_, ?_⟩, HTF.out.mono ?_, ?_⟩
        · intro q hq
          refine (HTF.out.heap (by have := HSZ.out; omega) ?_).trans (HLOW.out q hq)
          rintro (e | e | e)
          · omega
          · omega
          · have := Kd.R_base HR.out q e.symm; omega
        · refine HTF.out.blk HCV.out ?_
          rintro (e | e | e)
          · exact HNV.out e
          · exact hnbo e
          · exact (hnr bv e).2.1 rfl
        · rw [HEQ.out.1]
          have h := HSE8.out
          rw [HIE.out, List.take_of_length_le (by have := HTL.out; omega)] at h
          exact h
        · rw [HEQ.out.2]
          exact HS8.out
        · rintro q (e | e | e)
          · left; omega
          · left; omega
          · exact .inr e
        · rintro q (e | e)
          · exact .inl (.inl e)
          · rcases HV8.out q e with h | h
            · exact .inl (.inr h)
            · exact .inr (Nat.le_trans HT.out.size h)
end Go.Proofs.Ythlgclfhoeakgaa.L

namespace Go.Proofs.Ythlgclfhoeakgaa.L
open Go.RowKit Go.Proofs.Ythlgclfhoeakgaa Go.Proofs.Ythlgclfhoeakgaa.P Go.Proofs.YthlgclfhoeakgaaW.PrintWords Go.Proofs.YthlgclfhoeakgaaW.PrintLast Go.Proofs.YthlgclfhoeakgaaW.PrintMore
set_option linter.unusedVariables false
set_option linter.unusedSimpArgs false

theorem ocDigs_length (k c : Nat) : (ocDigs k c).length = k := by
 induction k generalizing c with
 | zero => rfl
 | succ k ih => simp [ocDigs, ih]
theorem ocDec_sq (n : Nat) : ∀ k c, (ocDec n k c).length = k ∧ ∀ r ∈ ocDec n k c, r.length = n := by
 intro k
 induction k with
 | zero => intro c; exact ⟨rfl, fun r h => by cases h⟩
 | succ k ih =>
  intro c
  obtain ⟨h1, h2⟩ := ih (c / 3 ^ n)
  refine ⟨by simp [ocDec, h1], fun r hr => ?_⟩
  rcases List.mem_cons.1 hr with rfl | h
  ·exact ocDigs_length n c
  ·exact h2 r h
theorem ocE_sq (n j : Nat) : Sq n (ocE n j) := ocDec_sq n n _
theorem ocE_few {n : Nat} (hn : n ≤ 1000) (j : Nat) : fewRows (ocE n j) := by
 obtain ⟨h1, h2⟩ := ocE_sq n j
 exact ⟨by omega, fun r hr => by have := h2 r hr; omega⟩
theorem ocEL_get {n j : Nat} (hj : j < (ocC n).length) : (ocEL n)[j]? = some (ocE n j) := by
 unfold ocEL ocE
 rw [List.getElem?_map, List.getElem?_eq_getElem hj, List.getD_eq_getElem?_getD, List.getElem?_eq_getElem hj]
 rfl
theorem ocEL_length (n : Nat) : (ocEL n).length = (ocC n).length := by unfold ocEL; rw [List.length_map]
structure OcAt (n j : Nat) : Prop where
 orb : ocI (ocP n) j 100 [j] ((ocP n).getD j 0) = some (ocO n j)
 mem : ∀ x ∈ ocO n j, x < (ocC n).length ∧ (ocR n).getD x 0 = (ocR n).getD j 0
 few : (ocO n j).length ≤ 100
 own : j ∈ ocO n ((ocR n).getD j 0)
 le : (ocR n).getD j 0 ≤ j
 rr : (ocR n).getD ((ocR n).getD j 0) 0 = (ocR n).getD j 0
 nxt : (ocP n).getD j 0 < (ocC n).length
 least : leastT ((ocO n j).map (ocE n)) = ocE n j ↔ (ocR n).getD j 0 = j
theorem OcOk.at {n : Nat} (h : OcOk n) {j : Nat} (hj : j < (ocC n).length) : OcAt n j := by
 have h1 := h.all
 unfold ocAll at h1
 have h2 := List.all_eq_true.1 h1 j (by rw [List.mem_range'_1]; omega)
 unfold ocOne at h2
 simp only [Bool.and_eq_true, List.all_eq_true, List.any_eq_true, decide_eq_true_eq, beq_iff_eq, Option.isSome_iff_exists] at h2
 obtain ⟨⟨⟨⟨⟨⟨⟨⟨o, ho⟩, h3⟩, h4⟩, ⟨x, h5, rfl⟩⟩, h6⟩, h7⟩, h8⟩, h9⟩ := h2
 refine ⟨?_, h3, h4, h5, h6, h7, h8, ?_⟩
 ·unfold ocO; rw [ho]; rfl
 ·exact decide_eq_decide.1 h9
theorem OcOk.sign {n : Nat} (h : OcOk n) {j : Nat} (hj : j < (ocC n).length) : isSign (ocE n j) = true ∧ flip2 (ocE n j) 0 1 = ocE n ((ocP n).getD j 0) := by
 have h429 := h.len.1
 have h1 := h.flip (j / 72) (by omega)
 unfold ocFlip at h1
 have h2 := List.all_eq_true.1 h1 j (by rw [List.mem_range'_1]; omega)
 rw [decide_eq_false (by omega), Bool.false_or, Bool.and_eq_true, decide_eq_true_eq] at h2
 exact h2
/-- The text of the table at a place. -/
def ocS (n j : Nat) : ByteArray := (impl_signText.f 100 (ocE n j)).getD ⟨#[]⟩
theorem OcOk.text {n : Nat} (h : OcOk n) {j : Nat} (hj : j < (ocC n).length) : impl_signText.f 100 (ocE n j) = some (ocS n j) ∧ (ocS n j).size ≤ 1000 ∧ ocT (ocE n j) = (ocS n j).data.toList.foldl (fun a b => a * 256 + b.toNat) 1 := by
 have h1 := h.txs
 unfold ocTx at h1
 rw [Bool.and_eq_true] at h1
 have h2 := List.all_eq_true.1 h1.1 (ocE n j) (List.mem_of_getElem? (ocEL_get hj))
 rw [decide_eq_true_eq] at h2
 unfold ocS
 unfold ocT at h2 ⊢
 cases hs : impl_signText.f 100 (ocE n j) with
 | none => rw [hs] at h2; exact absurd rfl h2
 | some s =>
  rw [hs] at h2
  dsimp only at h2 ⊢
  by_cases h3 : s.size ≤ 1000
  ·rw [if_pos h3]; exact ⟨rfl, h3, rfl⟩
  ·rw [if_neg h3] at h2; exact absurd rfl h2
theorem ocNo_inj : ∀ (l : List Nat), ocNo l = true → ∀ (i j a : Nat), l[i]? = some a → l[j]? = some a → i = j
 | [], _, i, j, a, hi, hj => by simp at hi
 | b :: l, h, i, j, a, hi, hj => by
  unfold ocNo at h
  rw [Bool.and_eq_true, List.all_eq_true] at h
  have hne : ∀ (k : Nat), l[k]? = some b → False := fun k hk => by
   have := h.1 b (List.mem_of_getElem? hk)
   simp at this
  cases i with
  | zero =>
   cases j with
   | zero => rfl
   | succ j =>
    simp only [List.getElem?_cons_zero, Option.some.injEq] at hi
    subst hi
    exact (hne j (by simpa using hj)).elim
  | succ i =>
   cases j with
   | zero =>
    simp only [List.getElem?_cons_zero, Option.some.injEq] at hj
    subst hj
    exact (hne i (by simpa using hi)).elim
   | succ j => rw [ocNo_inj l h.2 i j a (by simpa using hi) (by simpa using hj)]
theorem OcOk.inj {n : Nat} (h : OcOk n) {i j : Nat} (hi : i < (ocC n).length) (hj : j < (ocC n).length) (he : (ocS n i).data.toList = (ocS n j).data.toList) : i = j := by
 have h1 := h.txs
 unfold ocTx at h1
 rw [Bool.and_eq_true] at h1
 refine ocNo_inj _ h1.2 i j (ocT (ocE n j)) ?_ ?_
 ·rw [List.getElem?_map, ocEL_get hi, (h.text hj).2.2, ← he, ← (h.text hi).2.2]; rfl
 ·rw [List.getElem?_map, ocEL_get hj]; rfl
theorem OcOk.injE {n : Nat} (h : OcOk n) {i j : Nat} (hi : i < (ocC n).length) (hj : j < (ocC n).length) (he : ocE n i = ocE n j) : i = j :=
 h.inj hi hj (by unfold ocS; rw [he])
theorem oc_orb {n : Nat} (h : OcOk n) (hn : n ≤ 1000) {j : Nat} (hj : j < (ocC n).length) : ∀ (k : Nat) (acc : List Nat) (x : Nat) (r : List Nat), ocI (ocP n) j k acc x = some r → x < (ocC n).length → acc.length + k ≤ 1000 →
  Ev (fun m => impl_orbit.l0 m (ocE n j) (acc.map (ocE n)) (ocE n x)) (r.map (ocE n), true) ∧ Ev (fun m => spec_gyOrbit.l0 m (ocE n j) (acc.map (ocE n)) (ocE n x)) (r.map (ocE n), true) := by
 intro k
 induction k with
 | zero => intro acc x r hr; simp [ocI] at hr
 | succ k ih =>
  intro acc x r hr hx hl
  rw [ocI] at hr
  by_cases e : x = j
  ·rw [if_pos e] at hr
   obtain rfl := Option.some.inj hr
   subst e
   refine ⟨?_, ?_⟩
   ·refine Ev.step (fun k => by rw [impl_orbit.l0]) ?_
    exact Ev.some_bind (a := cmpT (ocE n x) (ocE n x)) rfl (Ev.ite_pos ((cmpT_zero _ _).2 rfl) (Ev.now _))
   ·refine Ev.step (fun k => by rw [spec_gyOrbit.l0]) ?_
    refine Ev.bind (heSame_ev (ocE n x) (ocE n x) (ocE_few hn x)) ?_
    rw [decide_eq_true rfl]
    exact Ev.ite_pos rfl (Ev.now _)
  ·rw [if_neg e] at hr
   have hne : ocE n x ≠ ocE n j := fun h2 => e (h.injE hx hj h2)
   obtain ⟨hs, hf⟩ := h.sign hx
   obtain ⟨i1, i2⟩ := ih (acc ++ [x]) _ r hr (h.at hx).nxt (by rw [List.length_append, List.length_singleton]; omega)
   rw [List.map_append, List.map_singleton] at i1 i2
   have hq := next_eq hs
   rw [hf] at hq
   refine ⟨?_, ?_⟩
   ·refine Ev.step (fun k => by rw [impl_orbit.l0]) ?_
    exact Ev.some_bind (a := cmpT (ocE n x) (ocE n j)) rfl (Ev.ite_neg (fun h2 => hne ((cmpT_zero _ _).1 h2)) (Ev.ite_neg (by rw [List.length_map]; omega) (Ev.ite_pos (by rw [List.length_map]; omega) (Ev.some_bind hq.2 i1))))
   ·refine Ev.step (fun k => by rw [spec_gyOrbit.l0]) ?_
    refine Ev.bind (heSame_ev (ocE n x) (ocE n j) (ocE_few hn x)) ?_
    rw [decide_eq_false hne]
    exact Ev.ite_neg (by simp) (Ev.ite_neg (by rw [List.length_map]; omega) (Ev.ite_pos (by rw [List.length_map]; omega) (Ev.some_bind hq.1 i2)))
theorem oc_orbit {n : Nat} (h : OcOk n) (hn : n ≤ 1000) {j : Nat} (hj : j < (ocC n).length) : Ev (fun m => impl_orbit.f m (ocE n j)) ((ocO n j).map (ocE n), true) ∧ Ev (fun m => spec_gyOrbit.f m (ocE n j)) ((ocO n j).map (ocE n), true) := by
 obtain ⟨hs, hf⟩ := h.sign hj
 have hq := next_eq hs
 rw [hf] at hq
 obtain ⟨i1, i2⟩ := oc_orb h hn hj 100 [j] _ _ (h.at hj).orb (h.at hj).nxt (by simp)
 refine ⟨?_, ?_⟩
 ·unfold impl_orbit.f
  exact Ev.bind (copy_ev _ (ocE_few hn j)) (Ev.some_bind hq.2 i1)
 ·unfold spec_gyOrbit.f
  exact Ev.bind (own_ev _ (ocE_few hn j)) (Ev.some_bind hq.1 i2)
/-- The first places of the orbits. -/
def ocF (n m : Nat) : List Nat := (List.range m).filter (fun j => decide ((ocR n).getD j 0 = j))
def ocCs (n m : Nat) : List Int := (ocF n m).map (fun r => ((ocO n r).length : Int))
def ocSs (n m : Nat) : List (List UInt8) := (ocF n m).flatMap (fun r => (ocO n r).map (fun x => (ocS n x).data.toList))
theorem ocF_mem {n m r : Nat} : r ∈ ocF n m ↔ r < m ∧ (ocR n).getD r 0 = r := by unfold ocF; rw [List.mem_filter, List.mem_range, decide_eq_true_eq]
theorem ocF_length (n m : Nat) : (ocF n m).length ≤ m := by unfold ocF; have := List.length_filter_le (fun j => decide ((ocR n).getD j 0 = j)) (List.range m); rwa [List.length_range] at this
theorem ocF_new {n m : Nat} (h : (ocR n).getD m 0 = m) : ocF n (m + 1) = ocF n m ++ [m] := by unfold ocF; rw [List.range_succ, List.filter_append, List.filter_cons_of_pos (by rw [decide_eq_true_eq]; exact h)]; rfl
theorem ocF_old {n m : Nat} (h : ¬ (ocR n).getD m 0 = m) : ocF n (m + 1) = ocF n m := by unfold ocF; rw [List.range_succ, List.filter_append, List.filter_cons_of_neg (by rw [decide_eq_true_eq]; exact h)]; simp
theorem flat_few {α β : Type} (f : α → List β) (b : Nat) : ∀ l : List α, (∀ x ∈ l, (f x).length ≤ b) → (l.flatMap f).length ≤ l.length * b
 | [], _ => by simp
 | a :: l, h => by
  have h1 := flat_few f b l (fun x hx => h x (List.mem_cons_of_mem _ hx))
  have h2 := h a (List.mem_cons_self ..)
  rw [List.flatMap_cons, List.length_append, List.length_cons, Nat.succ_mul]
  omega
theorem oc_ok {n : Nat} (h : OcOk n) (hn : n ≤ 1000) : OlOk (ocEL n) (ocCs n) (ocSs n) := by
 intro j T hT
 have hj : j < (ocC n).length := by
  have := (List.getElem?_eq_some_iff.1 hT).1
  rwa [ocEL_length] at this
 rw [ocEL_get hj] at hT
 obtain rfl := Option.some.inj hT
 have h429 := h.len.1
 have hF := ocF_length n j
 have hA := h.at hj
 obtain ⟨K, hK⟩ := (oc_orbit h hn hj).1
 have hte : ∀ x, x < (ocC n).length → impl_signText.f (K + 100) (ocE n x) = some (ocS n x) := fun x hx => at_rounds (fun k => impl_signText.mono _ k) (show 100 ≤ K + 100 by omega) (h.text hx).1
 refine ⟨?_, ?_, K + 100, ocS n j, hte j hj, (h.text hj).2.1, ?_⟩
 ·have := flat_few (fun r => (ocO n r).map (fun x => (ocS n x).data.toList)) 100 (ocF n j) (fun x hx => by rw [List.length_map]; exact (h.at (show x < (ocC n).length by have := (ocF_mem.1 hx).1; omega)).few)
  have h2 : (ocF n j).length * 100 ≤ 429 * 100 := Nat.mul_le_mul_right _ (by omega)
  unfold ocSs
  omega
 ·unfold ocCs; rw [List.length_map]; omega
 ·by_cases hr : (ocR n).getD j 0 = j
  ·refine .inr ⟨?_, (ocO n j).map (ocE n), true, (ocO n j).map (ocS n), hK _ (by omega), ?_, by rw [List.length_map, List.length_map], ?_, ?_, ?_⟩
   ·intro hin
    unfold ocSs at hin
    obtain ⟨r, hr1, hr2⟩ := List.mem_flatMap.1 hin
    obtain ⟨x, hx, he⟩ := List.mem_map.1 hr2
    obtain ⟨hlt, hrr⟩ := ocF_mem.1 hr1
    obtain ⟨hxN, hxr⟩ := (h.at (show r < (ocC n).length by omega)).mem x hx
    have := h.inj hxN hj he
    subst this
    rw [hr, hrr] at hxr
    omega
   ·rw [List.length_map]; have := hA.few; omega
   ·intro i hi
    rw [List.length_map] at hi
    obtain ⟨hxN, _⟩ := hA.mem _ (List.getElem_mem hi)
    have e1 : ((ocO n j).map (ocE n)).getD i [] = ocE n (ocO n j)[i] := by rw [List.getD_eq_getElem?_getD, List.getElem?_map, List.getElem?_eq_getElem hi]; rfl
    have e2 : ((ocO n j).map (ocS n)).getD i ⟨#[]⟩ = ocS n (ocO n j)[i] := by rw [List.getD_eq_getElem?_getD, List.getElem?_map, List.getElem?_eq_getElem hi]; rfl
    rw [e1, e2]
    exact ⟨hte _ hxN, (h.text hxN).2.1⟩
   ·unfold ocSs
    rw [ocF_new hr, List.flatMap_append, List.flatMap_singleton, List.map_map]
    rfl
   ·unfold ocCs
    rw [ocF_new hr, List.map_append, List.map_singleton, List.length_map]
  ·refine .inl ⟨?_, ?_, ?_⟩
   ·unfold ocSs
    refine List.mem_flatMap.2 ⟨(ocR n).getD j 0, ocF_mem.2 ⟨by have := hA.le; omega, hA.rr⟩, List.mem_map.2 ⟨j, hA.own, rfl⟩⟩
   ·unfold ocSs; rw [ocF_old hr]
   ·unfold ocCs; rw [ocF_old hr]
/-- The lengths of the orbits. -/
def olN (n : Nat) : List Int := ocCs n (ocC n).length
theorem ocI_pos (P : List Nat) (j : Nat) : ∀ (k : Nat) (acc : List Nat) (x : Nat) (r : List Nat), ocI P j k acc x = some r → 0 < acc.length → 0 < r.length := by
 intro k
 induction k with
 | zero => intro acc x r h; simp [ocI] at h
 | succ k ih =>
  intro acc x r h h0
  rw [ocI] at h
  split at h
  ·obtain rfl := Option.some.inj h; exact h0
  ·exact ih _ _ _ h (by simp)
theorem gyLengths_l0 {n : Nat} (h : OcOk n) (hn : n ≤ 1000) : ∀ (d i : Nat), i + d = (ocC n).length → Ev (fun k => spec_gyLengths.l0 k (ocCs n i) (ocEL n) ((ocEL n).length : Int) i) (olN n) := by
 have h429 := h.len.1
 have hE := ocEL_length n
 intro d
 induction d with
 | zero =>
  intro i hi
  refine Ev.step (fun k => by rw [spec_gyLengths.l0]) ?_
  have : i = (ocC n).length := by omega
  subst this
  exact Ev.ite_neg (by omega) (Ev.now _)
 | succ d ih =>
  intro i hi
  have hlt : i < (ocC n).length := by omega
  have hA := h.at hlt
  have hF := ocF_length n i
  have hrd : rd_L2 (ocEL n) (i : Int) = ocE n i := by
   have := ocEL_get hlt
   unfold rd_L2
   rw [Int.toNat_natCast, List.getD_eq_getElem?_getD, this]; rfl
  refine Ev.step (fun k => by rw [spec_gyLengths.l0]) ?_
  rw [hrd, wrapS i (by omega)]
  refine Ev.ite_pos (by omega) (Ev.ite_pos (by omega) (Ev.ite_pos (by omega) (Ev.bind (oc_orbit h hn hlt).2 ?_)))
  refine Ev.bind (least_ev _ n hn (fun T hT => by obtain ⟨x, _, rfl⟩ := List.mem_map.1 hT; exact ocE_sq n x) (by rw [List.length_map]; have := hA.few; omega) (by rw [List.length_map]; exact ocI_pos _ _ _ _ _ _ hA.orb (by simp))) ?_
  refine Ev.bind (heSame_ev _ _ ?_) ?_
  ·have hm : Sq n (leastT ((ocO n i).map (ocE n))) := by
    have h0 : 0 < ((ocO n i).map (ocE n)).length := by rw [List.length_map]; exact ocI_pos _ _ _ _ _ _ hA.orb (by simp)
    have hall : ∀ T ∈ (ocO n i).map (ocE n), Sq n T := fun T hT => by obtain ⟨x, _, rfl⟩ := List.mem_map.1 hT; exact ocE_sq n x
    have hfold : ∀ (L : List (List (List Int))) (b : List (List Int)), (∀ T ∈ L, Sq n T) → Sq n b → Sq n (leastF b L) := by
     intro L
     induction L with
     | nil => intro b _ hb; exact hb
     | cons a L ihL =>
      intro b hL hb
      unfold leastF
      rw [List.foldl_cons]
      refine ihL _ (fun T hT => hL T (List.mem_cons_of_mem _ hT)) ?_
      split
      ·exact hL a (List.mem_cons_self ..)
      ·exact hb
    unfold leastT
    exact hfold _ _ hall (by rw [getD_at _ [] 0 h0]; exact hall _ (List.getElem_mem h0))
   refine ⟨?_, fun r hr => ?_⟩
   ·show (leastT ((ocO n i).map (ocE n))).length ≤ 1048576; have := hm.1; omega
   ·have := hm.2 r hr; omega
  ·have hnext := ih (i + 1) (by omega)
   by_cases hr : (ocR n).getD i 0 = i
   ·rw [decide_eq_true (hA.least.2 hr)]
    unfold ocCs at hnext ⊢
    rw [ocF_new hr, List.map_append, List.map_singleton] at hnext
    refine Ev.ite_pos rfl (Ev.ite_pos (by rw [List.length_map]; omega) ?_)
    rw [List.length_map]
    exact hnext
   ·rw [decide_eq_false (fun h2 => hr (hA.least.1 h2))]
    unfold ocCs at hnext ⊢
    rw [ocF_old hr] at hnext
    exact Ev.ite_neg (by simp) hnext
theorem gyLengths_ev {n : Nat} (h0 : 1 ≤ n) (h1 : n ≤ 5) : Ev (fun k => spec_gyLengths.f k (n : Int)) (olN n) := by
 have h := oc_all h0 h1
 unfold spec_gyLengths.f
 refine Ev.some_bind (a := ocEL n) (by unfold spec_trAll.f; rw [if_pos ⟨rfl, rfl, by omega, by omega⟩, Int.toNat_natCast, h.es]) ?_
 exact gyLengths_l0 h (by omega) (ocC n).length 0 (by omega)
end Go.Proofs.Ythlgclfhoeakgaa.L

namespace Go.Proofs.Ythlgclfhoeakgaa.L
open Go.RowKit Go.Maps Go.Proofs.Ythlgclfhoeakgaa Go.Proofs.Ythlgclfhoeakgaa.P Go.Proofs.YthlgclfhoeakgaaW.PrintWords Go.Proofs.YthlgclfhoeakgaaW.PrintLast Go.Proofs.YthlgclfhoeakgaaW.PrintMore
set_option linter.unusedVariables false
set_option linter.unusedSimpArgs false
theorem ol_1.calls (W0 : World) (B bo bv bm : Nat) (All : List (List (List Int))) (cs : Nat → List Int) (Ss : Nat → List (List UInt8)) (hB : B ≤ W0.heap.size) (hbo : bo < W0.heap.size) (hbv : bv < W0.heap.size) (hbm : bm < W0.heap.size) (hBo : B ≤ bo) (hBm : B ≤ bm) (hok : OlOk All cs Ss)
  (j : Nat) (T : List (List Int)) (hT : All[j]? = some T) (A : Option Addr) (c : Nat) (W : World) (ok : Nat → Prop)
  (hst : OlSt W0 B bo bv bm cs Ss j W ok) (hF : Kd.F (Kd.slice 3 (Kd.int .i64)) W (fun k => ¬ ok k ∧ k < W.heap.size) A T.length T) (hc : T.length ≤ c) :
  Calls Try.prog 36 (#[.slice A T.length c] ++ #[.pointer (some ⟨bv, 0, none⟩), .pointer (some ⟨bo, 0, none⟩)]) W (Stepped (OlSt W0 B bo bv bm cs Ss) (j + 1) W ok) := by
 obtain ⟨h1, h2, k, tx, htx, hsz, h3⟩ := hok j T hT
 rcases h3 with ⟨hin, hS, hcs⟩ | ⟨hin, O, b, tS, hO, hOl, htl, htS, hS, hcs⟩
 ·exact ol_seen.calls W0 B bo bv bm cs Ss hB hbo hbv hbm j T A c W ok k tx htx hsz hin hS hcs hst hF hc
 ·exact ol_new.calls W0 B bo bv bm cs Ss hB hbo hbv hbm hBo hBm j T A c W ok k tx htx hsz hin h1 h2 O b tS hO hOl htl htS hS hcs hst hF hc
/-- The world of the start. -/
def olW (w1 : World) : World := (((w1.alloc (.cells #[] 3)).alloc (.map #[] 0)).alloc (.cells #[.slice (some ⟨w1.heap.size, 0, none⟩) 0 0] 34)).alloc (.cells #[.map (some (w1.heap.size + 1))] 49)
theorem olW_size (w1 : World) : (olW w1).heap.size = w1.heap.size + 1 + 1 + 1 + 1 := by simp [olW]
theorem olW_below (w1 : World) : Below w1.heap.size w1 (olW w1) := below_alloc (below_alloc (below_alloc (below_alloc (Below.refl _ _) _) _) _) _
theorem ol_start (w1 : World) (cs : Nat → List Int) (Ss : Nat → List (List UInt8)) (hc0 : cs 0 = []) (hs0 : Ss 0 = []) :
  OlSt (olW w1) w1.heap.size (w1.heap.size + 1 + 1) (w1.heap.size + 1 + 1 + 1) (w1.heap.size + 1) cs Ss 0 (olW w1) (fun k => k < (olW w1).heap.size ∨ some k = (Value.slice (some ⟨w1.heap.size, 0, none⟩) 0 0).ownBlock) := by
 have hI : intBlk (olW w1) w1.heap.size [] := by
  unfold intBlk
  exact blk_alloc (blk_alloc (blk_alloc (blk_new_at rfl) _) _) _
 have hR := intBlk_R (ok := fun k => k ≠ w1.heap.size + 1 + 1 ∧ k ≠ w1.heap.size + 1 + 1 + 1 ∧ k ≠ w1.heap.size + 1) hI (Nat.le_refl _) (by omega) (by decide)
 refine ⟨_, rfl, Nat.le_refl _, fun k _ => rfl, blk_alloc (blk_new_at (by simp)) _, blk_new_at (by simp), ?_, by rw [hc0]; exact hR⟩
 rw [hs0]
 have h1 : Seen ((w1.alloc (.cells #[] 3)).alloc (.map #[] 0)) (w1.heap.size + 1) [] := by
  have := World.ownsMap_made (w1.alloc (.cells #[] 3)) Try.prog 9 (plainElem (H := Unit) Try.prog 4)
  simpa [Seen, SD] using this
 exact h1.below (below_alloc (below_alloc (Below.refl _ _) _) _)
set_option maxHeartbeats 4000000 in
set_option maxRecDepth 100000 in
theorem impl_OrbitLengths.callsG (n : Nat) (h0 : 1 ≤ n) (h5 : n ≤ 5) (All : List (List (List Int))) (cs : Nat → List Int) (Ss : Nat → List (List UInt8)) (hc0 : cs 0 = []) (hs0 : Ss 0 = []) (hok : OlOk All cs Ss) (hES : EachSigns n All) (w : World) :
  Calls Try.prog 19 #[.int .i64 n] w fun e w' => ∃ v : Value, e = .returned (.tuple #[v, .bool true]) ∧ Kd.R (Kd.int .i64) 3 w' w.heap.size (fun _ => True) v (cs All.length) ∧ Below w.heap.size w w' := by
 have hwi := impl_within.calls (n : Int) 1 5 true
 have HW := Aside0.mk hwi
 have HES := Aside0.mk hES
 have HOK := Aside0.mk hok
 have HWI := Aside0.mk (show impl_within.f (n : Int) 1 5 = some true by unfold impl_within.f; first | (rw [show inB (n : Int) 1 5 = true by simp [inB]; omega]) | simp [inB] <;> omega | (simp; omega))
 clear hwi hok hES
 have egT : ∀ args w, (callFunc 36 args).run Try.prog w = .ok (.enter 36 args) w := enters_of Try.func36 (by kernel_rfl) rfl
 have hmm := fun t w => run_makeMap (P := Try.prog) t w
 go_enter Try.func19, Try.ntmps19
 go_wp2_with (first
  | (go_at_call 33; refine (HW.out _ HWI.out).mono ?_; rintro e w1 ⟨rfl, hd⟩; have HB1 := Aside0.mk hd.below; clear hd)
  | (go_at_call 35; refine (HES.out 36 #[.pointer (some ⟨w1.heap.size + 1 + 1 + 1, 0, none⟩), .pointer (some ⟨w1.heap.size + 1 + 1, 0, none⟩)] (olW w1) (OlSt (olW w1) w1.heap.size (w1.heap.size + 1 + 1) (w1.heap.size + 1 + 1 + 1) (w1.heap.size + 1) cs Ss) (OlSt.stays _ _ _ _ _ _ _ (by rw [olW_size]; omega) (by rw [olW_size]; omega) (by rw [olW_size]; omega) (by rw [olW_size]; omega)) egT (fun j T A c W ok hT hst hF hc => ol_1.calls (olW w1) w1.heap.size _ _ _ All cs Ss (by rw [olW_size]; omega) (by rw [olW_size]; omega) (by rw [olW_size]; omega) (by rw [olW_size]; omega) (by omega) (by omega) HOK.out j T hT A c W ok hst hF hc) _ (ol_start w1 cs Ss hc0 hs0)).mono ?_; rintro e w5 ⟨rfl, ok5, ⟨v5, rfl, hs5, hl5, hc5, hv5, hm5, hR5⟩, ht5, ho5⟩; have hx5 : w5.cell? ⟨w1.heap.size + 1 + 1, 0, none⟩ = some v5 := blk_cell hc5 0; have HS5 := Aside0.mk hs5; have HL5 := Aside0.mk hl5; have HR5 := Aside0.mk hR5; have HT5 := Aside0.mk ht5; clear hs5 hl5 hR5 ht5 ho5 hc5 hv5 hm5))
 go_ret2
 refine ⟨_, rfl, Kd.R_lower (Kd.R_mono HR5.out (fun _ _ => trivial)) HB1.out.size, ?_⟩
 have hb := (olW_below w1)
 have h2 : Below w1.heap.size w1 w5 := ⟨HT5.out.os.trans hb.os, HT5.out.tape.trans hb.tape, HT5.out.output.trans hb.output, Nat.le_trans hb.size HT5.out.size, fun k hk => (HL5.out k hk).trans (hb.block k hk)⟩
 exact Below.trans HB1.out (h2.mono HB1.out.size)
end Go.Proofs.Ythlgclfhoeakgaa.L
