/- Texts of one chain, in build order. -/
import Derived.Test.YtkiloimggmpggaaYLambdaSum19
namespace Go.Proofs.Ytkiloimggmpggaa
open Go.RowKit Go.Proofs.Ytkiloimggmpggaa.P Go.Proofs.Ytkiloimggmpggaa.L Go.Proofs.YtkiloimggmpggaaW.PrintWords Go.Proofs.YtkiloimggmpggaaW.PrintLast Go.Proofs.YtkiloimggmpggaaW.PrintMore
set_option linter.unusedVariables false
set_option linter.unusedSimpArgs false

/-- A row taken from the sums of the columns. -/
def subR (s r : List Int) (j : Nat) : List Int := (List.range j).foldl (fun s j => s.set j (wrap64 (rd s j - rd r j))) s
theorem subR_succ (s r : List Int) (j : Nat) : subR s r (j + 1) = (subR s r j).set j (wrap64 (rd (subR s r j) j - rd r j)) := by
  unfold subR
  rw [List.range_succ, List.foldl_append]
  rfl
theorem subR_length (s r : List Int) : ∀ j, (subR s r j).length = s.length
  | 0 => rfl
  | j + 1 => by rw [subR_succ, List.length_set, subR_length s r j]
mutual
def esL : Nat → Nat → List (List Int) → List (List Int) → List Int → List (List Int) → Option (List (List (List Int)))
  | 0, _, _, _, _, _ => none
  | k + 1, n, R, rows, s, L => match L with
    | [] => some []
    | r :: rest => (impl_fitsSums.f 300 s r (decide (rows.length + 1 = n))).bind fun b => if b = true then (if r.length ≤ s.length ∧ subR (addR s r r.length) r r.length = s then (esE k n R (rows ++ [r]) (addR s r r.length)).bind fun a => (esL k n R rows s rest).bind fun b2 => some (a ++ b2) else none) else esL k n R rows s rest
def esE : Nat → Nat → List (List Int) → List (List Int) → List Int → Option (List (List (List Int)))
  | 0, _, _, _, _ => none
  | k + 1, n, R, rows, s => if rows.length = n then some [rows] else esL k n R rows s R
end
/-- The variables of the closure. -/
structure EsEnv (W : World) (bn bf br bs be gs n cr g : Nat) (lb : Array Value) (Ar : Option Addr) (R : List (List Int)) : Prop where
  num : W.heap[bn]? = some (.cells #[.int .i64 n] 3 (0, 0))
  fn : W.heap[bf]? = some (.cells #[.func (.func g) #[] lb] 39 (0, 0))
  rows : W.heap[br]? = some (.cells #[.slice Ar R.length cr] 22 (0, 0))
  sums : W.heap[bs]? = some (.cells #[.slice (some ⟨gs, 0, none⟩) n n] 38 (0, 0))
  each : W.heap[be]? = some (.cells #[.func (.func 56) #[] #[.pointer (some ⟨bn, 0, none⟩), .pointer (some ⟨bf, 0, none⟩), .pointer (some ⟨br, 0, none⟩), .pointer (some ⟨bs, 0, none⟩), .pointer (some ⟨be, 0, none⟩)]] 39 (0, 0))
theorem EsEnv.touch {W W' : World} {bn bf br bs be gs n cr g : Nat} {lb : Array Value} {Ar : Option Addr} {R : List (List Int)} {S : Nat → Prop} (h : EsEnv W bn bf br bs be gs n cr g lb Ar R) (ht : Touch W W' S) (h0 : ¬ S bn ∧ ¬ S bf ∧ ¬ S br ∧ ¬ S bs ∧ ¬ S be) : EsEnv W' bn bf br bs be gs n cr g lb Ar R :=
  ⟨ht.blk h.num h0.1, ht.blk h.fn h0.2.1, ht.blk h.rows h0.2.2.1, ht.blk h.sums h0.2.2.2.1, ht.blk h.each h0.2.2.2.2⟩
/-- What is only read while the state has the blocks ok. -/
def roE (W : World) (ok : Nat → Prop) (gs : Nat) : Nat → Prop := fun k => (¬ ok k ∧ k ≠ gs) ∧ k < W.heap.size
def envE (bn bf br bs be gs : Nat) (ok : Nat → Prop) : Prop := (¬ ok bn ∧ ¬ ok bf ∧ ¬ ok br ∧ ¬ ok bs ∧ ¬ ok be ∧ ¬ ok gs) ∧ (bn ≠ gs ∧ bf ≠ gs ∧ br ≠ gs ∧ bs ≠ gs ∧ be ≠ gs)
/-- What the closure leaves. -/
def EsPost (St : Nat → World → (Nat → Prop) → Prop) (j : Nat) (W : World) (ok : Nat → Prop) (gs : Nat) (s : List Int) (e : Ending) (W' : World) : Prop :=
  e = .returned (.bool true) ∧ ∃ ok', St j W' ok' ∧ intBlk W' gs s ∧ Touch W W' (fun k => ok k ∨ k = gs) ∧ ∀ k, ok' k → ok k ∨ W.heap.size ≤ k
set_option maxHeartbeats 4000000 in
set_option maxRecDepth 100000 in
theorem eachSigns_1.calls (St : Nat → World → (Nat → Prop) → Prop) (hSt : Stays St) (n cr g : Nat) (lb : Array Value) (Ar : Option Addr) (R : List (List Int)) (hn : n ≤ 100) (hR : R.length ≤ 1000) (hcr : R.length ≤ cr) (bn bf br bs be gs : Nat) (All : List (List (List Int)))
    (eg : ∀ args w, (callFunc g args).run Try.prog w = .ok (.enter g args) w)
    (hf : ∀ (j : Nat) (T : List (List Int)) (A : Option Addr) (c : Nat) (W : World) (ok : Nat → Prop), All[j]? = some T → St j W ok → Kd.F (Kd.slice 3 (Kd.int .i64)) W (fun k => ¬ ok k ∧ k < W.heap.size) A T.length T → T.length ≤ c → Calls Try.prog g (#[.slice A T.length c] ++ lb) W (Stepped St (j + 1) W ok)) :
    ∀ (k : Nat) (rows : List (List Int)) (s : List Int) (X : List (List (List Int))) (j : Nat) (A : Option Addr) (c : Nat) (W : World) (ok : Nat → Prop),
    esE k n R rows s = some X → rows.length + k ≤ 100000 → s.length = n → (∀ i, i < X.length → All[j + i]? = X[i]?) →
    EsEnv W bn bf br bs be gs n cr g lb Ar R → intBlk W gs s → envE bn bf br bs be gs ok → St j W ok →
    Kd.F (Kd.slice 3 (Kd.int .i64)) W (roE W ok gs) Ar R.length R → Kd.F (Kd.slice 3 (Kd.int .i64)) W (roE W ok gs) A rows.length rows → rows.length ≤ c →
    Calls Try.prog 56 #[.slice A rows.length c, .pointer (some ⟨bn, 0, none⟩), .pointer (some ⟨bf, 0, none⟩), .pointer (some ⟨br, 0, none⟩), .pointer (some ⟨bs, 0, none⟩), .pointer (some ⟨be, 0, none⟩)] W (EsPost St (j + X.length) W ok gs s) := by
  have egE : ∀ args w, (callFunc 56 args).run Try.prog w = .ok (.enter 56 args) w := enters_of Try.func56 (by kernel_rfl) rfl
  intro k
  induction k using Nat.strongRecOn with
  | _ k ih =>
  intro rows s X j A c W ok hX hlen hsl hAll henv hs hok hst hFR hF hc
  cases k with
  | zero => simp [esE] at hX
  | succ k =>
  rw [esE] at hX
  have hnum : W.cell? ⟨bn, 0, none⟩ = some (.int .i64 n) := blk_cell henv.num 0
  have hfn : W.cell? ⟨bf, 0, none⟩ = some (.func (.func g) #[] lb) := blk_cell henv.fn 0
  have hrw : W.cell? ⟨br, 0, none⟩ = some (.slice Ar R.length cr) := blk_cell henv.rows 0
  have hrl : rows.length ≤ 100000 := by omega
  have HENV := Aside0.mk henv
  have HS := Aside0.mk hs
  have HOK := Aside0.mk hok
  have HST := Aside0.mk hst
  have HFR := Aside0.mk hFR
  have HF := Aside0.mk hF
  have HC := Aside0.mk hc
  clear henv hs hok hst hFR hF hc
  by_cases hrn : rows.length = n
  · rw [if_pos hrn] at hX
    obtain rfl := Option.some.inj hX
    have hnd : ((rows.length : Int) == (n : Int)) = true := by simp [hrn]
    have HC1 := Aside0.mk (hf j rows A c W ok (by have := hAll 0 (by simp); simpa using this) HST.out (Kd.F_mono HF.out (fun k hk => ⟨hk.1.1, hk.2⟩)) HC.out)
    clear hX ih hAll hrn hf
    go_enter Try.func56, Try.ntmps56
    go_wp2_with (go_at_fn g; refine HC1.out.mono ?_; rintro e w1 ⟨rfl, ok1, hs1, ht1, ho1⟩; have HS1 := Aside0.mk hs1; have HT1 := Aside0.mk ht1; have HO1 := Aside0.mk ho1; clear hs1 ht1 ho1)
    go_ret
    exact ⟨rfl, ok1, HS1.out, HT1.out.blk HS.out HOK.out.1.2.2.2.2.2, HT1.out.mono (fun k hk => .inl hk), HO1.out⟩
  · rw [if_neg hrn] at hX
    have hnd : ((rows.length : Int) == (n : Int)) = false := by simp; omega
    have HM := Aside0.mk hX
    have IH := Aside0.mk ih
    have HAL := Aside0.mk hAll
    obtain ⟨J, hJ⟩ : ∃ J, J = j + X.length := ⟨_, rfl⟩
    rw [← hJ]
    have HJ := Aside0.mk hJ.symm
    have hbsz : bn < W.heap.size ∧ bf < W.heap.size ∧ br < W.heap.size ∧ bs < W.heap.size ∧ be < W.heap.size ∧ gs < W.heap.size := ⟨blk_lt HENV.out.num, blk_lt HENV.out.fn, blk_lt HENV.out.rows, blk_lt HENV.out.sums, blk_lt HENV.out.each, blk_lt HS.out⟩
    have HLEN := Aside0.mk hlen
    clear hX ih hAll hJ hrn hf hlen
    go_enter Try.func56, Try.ntmps56
    go_wp2
    go_loopg [24] k (fun kq s24 wr => ∃ (i j1 : Nat) (Y : List (List (List Int))) (ok1 : Nat → Prop), i ≤ R.length ∧ s24 = .int .i64 i ∧ Aside0 (esL kq n R rows s (R.drop i) = some Y) ∧ Aside0 (kq ≤ k) ∧ Aside0 (j1 + Y.length = J) ∧ Aside0 (∀ i, i < Y.length → All[j1 + i]? = Y[i]?) ∧ Aside0 (St j1 wr ok1) ∧ Aside0 (intBlk wr gs s) ∧ Aside0 (Touch W wr (fun k => ok k ∨ k = gs)) ∧ Aside0 (∀ k, ok1 k → ok k ∨ W.heap.size ≤ k))
    case atStart => exact ⟨0, j, X, ok, Nat.zero_le _, rfl, HM, ⟨Nat.le_refl _⟩, HJ, HAL, HST, HS, ⟨Touch.refl _ _⟩, ⟨fun k h => .inl h⟩⟩
    case round =>
      clear HM HJ HAL HST HS
      obtain ⟨i, j1, Y, ok1, hi, rfl, HM, HK, HJ, HAL, HST, HS, HT, HO⟩ := hrel
      cases gk with
      | zero => exact absurd HM.out (by simp [esL])
      | succ k3 =>
      have H := HM.out
      by_cases hlt : i < R.length
      · have hz : (i : Int) < (R.length : Int) := by omega
        obtain ⟨r, hr⟩ : ∃ r, r = R[i] := ⟨_, rfl⟩
        rw [List.drop_eq_getElem_cons hlt, ← hr, esL] at H
        obtain ⟨b, hb, H⟩ := Option.bind_eq_some_iff.1 H
        have hFRr := HT.out.F HFR.out (fun k hk h => h.elim hk.1.1 hk.1.2)
        obtain ⟨ad, cc, hA, hcl1, hFK, hcell, _⟩ := Kd.F_get hFRr ([] : List Int) (i : Int) (by omega) (by omega)
        subst hA
        obtain ⟨A1, c1, rfl, hc1, hFx⟩ := Kd.FK_slice_open hFK
        have hx := hcell 0 _ rfl
        rw [Int.toNat_natCast, show (Kd.slice 3 (Kd.int .i64)).sz = 1 from rfl, Nat.mul_one, Nat.add_zero] at hx
        have hge : R.getD i [] = r := by rw [hr, List.getD_eq_getElem?_getD, List.getElem?_eq_getElem hlt]; rfl
        rw [Int.toNat_natCast, hge] at hc1 hFx
        rw [hge] at hx
        have HXF := Aside0.mk hFx
        have HC1 := Aside0.mk hc1
        have henv2 := HENV.out.touch HT.out ⟨fun h => h.elim HOK.out.1.1 HOK.out.2.1, fun h => h.elim HOK.out.1.2.1 HOK.out.2.2.1, fun h => h.elim HOK.out.1.2.2.1 HOK.out.2.2.2.1, fun h => h.elim HOK.out.1.2.2.2.1 HOK.out.2.2.2.2.1, fun h => h.elim HOK.out.1.2.2.2.2.1 HOK.out.2.2.2.2.2⟩
        have HENV2 := Aside0.mk henv2
        have hsums : wr.cell? ⟨bs, 0, none⟩ = some (.slice (some ⟨gs, 0, none⟩) n n) := blk_cell henv2.sums 0
        have hnum2 : wr.cell? ⟨bn, 0, none⟩ = some (.int .i64 n) := blk_cell henv2.num 0
        obtain ⟨last, hla⟩ : ∃ last, last = decide (rows.length + 1 = n) := ⟨_, rfl⟩
        have hlast : ((rows.length : Int) == (n : Int) - 1) = last := by
          rw [hla]
          by_cases h : rows.length + 1 = n
          · rw [decide_eq_true h]; simp; omega
          · rw [decide_eq_false h]; simp; omega
        rw [← hla] at hb
        have hcs : Kd.C (Kd.int .i64) wr (some ⟨gs, 0, none⟩) s.length s := (Kd.R_reads' (intBlk_R (base := 0) (ok := fun _ => True) HS.out (Nat.zero_le _) trivial (by omega))).2.2
        have hft := impl_fitsSums.calls 300 (some ⟨gs, 0, none⟩) n s A1 c1 r last b wr hcs (by omega) (Kd.F_now hFx) hc1 hb
        rw [hsl] at hft
        have HFT := Aside0.mk hft
        clear HM hFRr hFK hcell hcl1 hc1 hFx hge hr henv2 hla hb hcs hft
        cases b with
        | false =>
          rw [if_neg (by simp)] at H
          have HM := Aside0.mk H
          clear H
          go_wp2_with (go_at_call 57; refine HFT.out.mono ?_; rintro e w2 ⟨rfl, hd⟩; have HBf := Aside0.mk hd.below; clear hd)
          go_roundg k3
          case measure => have := HK.out; omega
          case rel => exact ⟨i + 1, j1, Y, ok1, by omega, by go_num, HM, ⟨by have := HK.out; omega⟩, HJ, HAL, ⟨hSt.below HST.out HBf.out⟩, ⟨blk_below HS.out HBf.out⟩, ⟨HT.out.then_below HBf.out⟩, HO⟩
        | true =>
          rw [if_pos rfl] at H
          split at H
          case isFalse => cases H
          rename_i hrs
          obtain ⟨a, ha, H⟩ := Option.bind_eq_some_iff.1 H
          obtain ⟨b2, hb2, H⟩ := Option.bind_eq_some_iff.1 H
          obtain rfl := Option.some.inj H
          have HA := Aside0.mk ha
          have HB2 := Aside0.mk hb2
          have hrs1 := hrs.1
          have HSB := Aside0.mk hrs.2
          clear H ha hb2 hrs
          go_wp2_with (go_at_call 57; refine HFT.out.mono ?_; rintro e w2 ⟨rfl, hd⟩; have HBf := Aside0.mk hd.below; clear hd)
          clear hx hsums hnum2
          obtain ⟨wo, rfl⟩ : ∃ wo : World, wo = wr := ⟨_, rfl⟩
          go_loopg [39] r.length (fun gj s39 wr2 => ∃ jj : Nat, jj ≤ r.length ∧ r.length - jj ≤ gj ∧ s39 = .int .i64 jj ∧ Aside0 (intBlk wr2 gs (addR s r jj)) ∧ Aside0 (Touch wo wr2 (fun k => k = gs)))
          case atStart => exact ⟨0, Nat.zero_le _, Nat.le_refl _, rfl, ⟨blk_below HS.out HBf.out⟩, ⟨Touch.of_below HBf.out _⟩⟩
          case round =>
            clear HBf HFT
            obtain ⟨jj, hjj, hgj, rfl, HI, HT2⟩ := hrel
            have hsums : wr.cell? ⟨bs, 0, none⟩ = some (.slice (some ⟨gs, 0, none⟩) n n) := blk_cell (HT2.out.blk HENV2.out.sums HOK.out.2.2.2.2.1) 0
            by_cases hjt : jj < r.length
            · have hjz : (jj : Int) < (r.length : Int) := by omega
              have hjn : (jj : Int) < (n : Int) := by omega
              obtain ⟨adr, e1, hy⟩ := Kd.at_int (Kd.F_now (HT2.out.F HXF.out (fun k hk e => hk.1.2 e))) (jj : Int) (by omega) hjz
              subst e1
              simp only [Int.toNat_natCast] at hy
              obtain ⟨cs, hcs⟩ : ∃ cs, cs = addR s r jj := ⟨_, rfl⟩
              have hcl : cs.length = n := by rw [hcs, addR_length, hsl]
              have hsc := addR_succ s r jj
              rw [← hcs] at HI hsc
              have hcell := (blk_cell HI.out jj).trans (show ((cs.map (Value.int .i64)).toArray[jj]?) = some (.int .i64 (rd cs jj)) by simp [rd, List.getD_eq_getElem?_getD, show jj < cs.length by omega])
              have hfz := blk_frozen HI.out jj
              have HP := Aside0.mk (show intBlk (wr.setCell ⟨gs, jj, none⟩ (.int .i64 (wrap64 (rd cs jj + rd r jj)))) gs (addR s r (jj + 1)) from blk_put HI.out jj _ (by simp [hsc]))
              have HT3 := Aside0.mk (HT2.out.set ⟨gs, jj, none⟩ (.inl rfl) (.int .i64 (wrap64 (rd cs jj + rd r jj))))
              clear hcs hsc hcl
              go_wp2
              go_roundg (r.length - (jj + 1))
              case measure => omega
              case rel => exact ⟨jj + 1, by omega, by omega, by go_num, HP, HT3⟩
            · have hjz : ¬ (jj : Int) < (r.length : Int) := by omega
              have hje : jj = r.length := by omega
              subst hje
              have HFw := Aside0.mk (HT2.out.F (HT.out.F HF.out (fun k hk h => h.elim hk.1.1 hk.1.2)) (fun k hk e => hk.1.2 e))
              have HRw := Aside0.mk (HT2.out.F (HT.out.F HFR.out (fun k hk h => h.elim hk.1.1 hk.1.2)) (fun k hk e => hk.1.2 e))
              have HXw := Aside0.mk (HT2.out.F HXF.out (fun k hk e => hk.1.2 e))
              have henv3 := HENV2.out.touch HT2.out ⟨HOK.out.2.1, HOK.out.2.2.1, HOK.out.2.2.2.1, HOK.out.2.2.2.2.1, HOK.out.2.2.2.2.2⟩
              have HENV3 := Aside0.mk henv3
              have hok1 : ∀ q, q < W.heap.size → ¬ ok q → ¬ ok1 q := fun q hq hn h => (HO.out q h).elim hn (fun h => by omega)
              have HOK1 := Aside0.mk (show envE bn bf br bs be gs ok1 from ⟨⟨hok1 _ hbsz.1 HOK.out.1.1, hok1 _ hbsz.2.1 HOK.out.1.2.1, hok1 _ hbsz.2.2.1 HOK.out.1.2.2.1, hok1 _ hbsz.2.2.2.1 HOK.out.1.2.2.2.1, hok1 _ hbsz.2.2.2.2.1 HOK.out.1.2.2.2.2.1, hok1 _ hbsz.2.2.2.2.2 HOK.out.1.2.2.2.2.2⟩, HOK.out.2⟩)
              have HST3 := Aside0.mk (hSt.touch HST.out HT2.out (fun q hq e => HOK1.out.1.2.2.2.2.2 (e ▸ hq)))
              have hwsz : W.heap.size ≤ wr.heap.size := Nat.le_trans HT.out.size HT2.out.size
              have HRO := Aside0.mk (show ∀ Wc : World, Below wr.heap.size wr Wc → ∀ q, (roE W ok gs q ∨ wr.heap.size ≤ q) ∧ q < Wc.heap.size → roE Wc ok1 gs q from fun Wc hbc q hq => ⟨hq.1.elim (fun h => ⟨hok1 q h.2 h.1.1, h.1.2⟩) (fun h => ⟨fun h1 => by have := hSt.lt HST3.out q h1; omega, by omega⟩), hq.2⟩)
              have hk1 : wr.cell? ⟨be, 0, none⟩ = some (.func (.func 56) #[] #[.pointer (some ⟨bn, 0, none⟩), .pointer (some ⟨bf, 0, none⟩), .pointer (some ⟨br, 0, none⟩), .pointer (some ⟨bs, 0, none⟩), .pointer (some ⟨be, 0, none⟩)]) := blk_cell henv3.each 0
              obtain ⟨us, hul, _, _, hus⟩ := C_cells (Kd.F_now HFw.out)
              have HUS := Aside0.mk hus
              have HN0 := Aside0.mk (show A = none → rows.length = 0 ∧ rows.length = 0 from fun h => by
                subst h
                rcases Nat.eq_zero_or_pos rows.length with h | h
                · exact ⟨h, h⟩
                · obtain ⟨ad, e, _⟩ := (Kd.F_now HFw.out).2.2 h; cases e)
              obtain ⟨i0, hi0, hz0, hz1, hz2⟩ := info_parts info_rowsU
              have hrc : rows.length ≤ c := HC.out
              have hrc2 : (0 : Int) ≤ (rows.length : Int) := by omega
              have hrc3 : (rows.length : Int) ≤ (c : Int) := by omega
              have HBC := Aside0.mk (Below.refl wr.heap.size wr)
              obtain ⟨s9, hs9⟩ : ∃ z, z = addR s r r.length := ⟨_, rfl⟩
              have HSL := Aside0.mk (show s9.length = n by rw [hs9, addR_length, hsl])
              rw [← hs9] at HI HSB HA
              have HALa := Aside0.mk (show ∀ q, q < a.length → All[j1 + q]? = a[q]? from fun q hq => by have := HAL.out q (by rw [List.length_append]; omega); rwa [List.getElem?_append_left hq] at this)
              clear henv3 hus hs9
              go_wp2
              go_region_held3 (fun W1 => W1.cell? ⟨be, 0, none⟩ = some (.func (.func 56) #[] #[.pointer (some ⟨bn, 0, none⟩), .pointer (some ⟨bf, 0, none⟩), .pointer (some ⟨br, 0, none⟩), .pointer (some ⟨bs, 0, none⟩), .pointer (some ⟨be, 0, none⟩)]) ∧ W1.cell? ⟨bs, 0, none⟩ = some (.slice (some ⟨gs, 0, none⟩) n n)) (first | (exact ⟨hk1, hsums⟩) | (exact ⟨hq1, hq2⟩) | (have hh_ := ‹_ ∧ _›; exact ⟨pw_cell_below (below_alloc (Below.refl _ _) _) hh_.1, pw_cell_below (below_alloc (Below.refl _ _) _) hh_.2⟩)) (first
                | (refine step_append_grows (by rfl) (.tmp 58) (.tmp 60) 22 (by rfl) 38 i0 (.slice none 0 0) 1 24 Try.underlying22 hi0 hz0 hz1 hz2 rfl (by omega) A rows.length rows.length us (by rfl) HN0.out (by rw [Nat.mul_one]; exact hul) (fun b_ e_ j u hu => pw_cell_below (by repeat (first | exact HBC.out | refine below_alloc ?_ _ | refine below_drew ?_)) (HUS.out b_ e_ j u hu)) ⟨_, 0, none⟩ 1 1 [.slice A1 r.length c1] (by rfl) (by rfl) ?hn (by simp [Value.oneCell']) (by omega) (by unfold maxLen; omega) (by omega) ?_; (case hn => (intro j u hu; cases j with | zero => (simp only [List.getElem?_cons_zero, Option.some.injEq] at hu; subst hu; exact blk_cell (blk_new _ _) 0) | succ j => simp at hu)); intro v9 w9 how9 hg9; have h9 := fun hb => app1_F HFw.out hul HUS.out HXw.out HC1.out hb how9 hg9; obtain ⟨A9, c9, rfl, hc9, hF9, hb9⟩ := h9 (by repeat (first | exact HBC.out | refine below_alloc ?_ _ | refine below_drew ?_)); have HF9 := Aside0.mk hF9; have HC9 := Aside0.mk hc9; have n_ := fun h => Aside0.mk (Below.trans (B := wr.heap.size) h (hb9.mono (Below.size h))); have m_ := n_ (by repeat (first | exact HBC.out | refine below_alloc ?_ _ | refine below_drew ?_)); clear n_ HBC; have HBC := m_; clear m_; (try clear hq1 hq2); have hq1 := pw_cell_below HBC.out hk1; have hq2 := pw_cell_below HBC.out hsums; clear h9 how9 hg9 hF9 hc9 hb9)
                | (go_at_fn 56
                   have hlq : (rows ++ [r]).length = rows.length + 1 := by simp
                   rw [← hlq]
                   refine (IH.out k3 (by have := HK.out; omega) (rows ++ [r]) s9 a j1 A9 c9 _ ok1 HA.out (by have := HK.out; have := HLEN.out; omega) HSL.out HALa.out (HENV3.out.touch (Touch.of_below HBC.out (fun _ => False)) ⟨id, id, id, id, id⟩) (blk_below HI.out HBC.out) HOK1.out (hSt.below HST3.out HBC.out) (Kd.F_mono (Kd.F_bound (Kd.F_below HRw.out HBC.out)) (fun q hq => HRO.out _ HBC.out q ⟨.inl hq.1, hq.2⟩)) (Kd.F_mono (Kd.F_bound (by rw [hlq]; rw [hlq] at HF9; exact HF9.out)) (HRO.out _ HBC.out)) (by have := HC9.out; omega)).mono ?_
                   rintro e w4 ⟨rfl, ok2, hst2, hI2, ht2, ho2⟩
                   clear hq1 hq2
                   have henv4 := HENV3.out.touch ((Touch.of_below HBC.out (fun q => ok1 q ∨ q = gs)).trans ht2 (fun q h => .inl h)) ⟨fun h => h.elim HOK1.out.1.1 HOK.out.2.1, fun h => h.elim HOK1.out.1.2.1 HOK.out.2.2.1, fun h => h.elim HOK1.out.1.2.2.1 HOK.out.2.2.2.1, fun h => h.elim HOK1.out.1.2.2.2.1 HOK.out.2.2.2.2.1, fun h => h.elim HOK1.out.1.2.2.2.2.1 HOK.out.2.2.2.2.2⟩
                   have hq1 := blk_cell henv4.each 0
                   have hq2 := blk_cell henv4.sums 0
                   have HE4 := Aside0.mk henv4
                   have HST4 := Aside0.mk hst2
                   have HI4 := Aside0.mk hI2
                   have HT4 := Aside0.mk ht2
                   have HO4 := Aside0.mk ho2
                   clear henv4 hst2 hI2 ht2 ho2 hlq))
              have HX4 := Aside0.mk (HT4.out.F (Kd.F_below HXw.out HBC.out) (fun q hq h => h.elim (hok1 q hq.2 hq.1.1) hq.1.2))
              have hgs2 : ∀ q, ok2 q → q ≠ gs := fun q hq e => (HO4.out q hq).elim (fun h => HOK1.out.1.2.2.2.2.2 (e ▸ h)) (fun h => by have := HBC.out.size; omega)
              have HTW := Aside0.mk (((HT.out.trans HT2.out (fun q h => .inl (.inr h))).then_below HBC.out).trans HT4.out (fun q h => h.elim (fun h1 => (HO.out q h1).imp .inl id) (fun h1 => .inl (.inr h1))))
              have HOW := Aside0.mk (show ∀ q, ok2 q → ok q ∨ W.heap.size ≤ q from fun q hq => (HO4.out q hq).elim (fun h => HO.out q h) (fun h => .inr (by have := HBC.out.size; omega)))
              have HALb := Aside0.mk (show ∀ q, q < b2.length → All[j1 + a.length + q]? = b2[q]? from fun q hq => by have := HAL.out (a.length + q) (by rw [List.length_append]; omega); rwa [← Nat.add_assoc, List.getElem?_append_right (by omega), Nat.add_sub_cancel_left] at this)
              have HJb := Aside0.mk (show j1 + a.length + b2.length = J by have := HJ.out; rw [List.length_append] at this; omega)
              clear hq1 hq2 hsums hk1
              go_wp2
              go_loopg [65] r.length (fun gj s65 wr2 => ∃ jj : Nat, jj ≤ r.length ∧ r.length - jj ≤ gj ∧ s65 = .int .i64 jj ∧ Aside0 (intBlk wr2 gs (subR s9 r jj)) ∧ Aside0 (Touch w4 wr2 (fun k => k = gs)))
              case atStart => exact ⟨0, Nat.zero_le _, Nat.le_refl _, rfl, HI4, ⟨Touch.refl _ _⟩⟩
              case round =>
                clear HI4
                obtain ⟨jj, hjj, hgj, rfl, HI5, HT5⟩ := hrel
                have hsums : wr.cell? ⟨bs, 0, none⟩ = some (.slice (some ⟨gs, 0, none⟩) n n) := blk_cell (HT5.out.blk HE4.out.sums HOK.out.2.2.2.2.1) 0
                by_cases hjt : jj < r.length
                · have hjz : (jj : Int) < (r.length : Int) := by omega
                  have hjn : (jj : Int) < (n : Int) := by omega
                  obtain ⟨adr, e1, hy⟩ := Kd.at_int (Kd.F_now (HT5.out.F HX4.out (fun k hk e => hk.1.2 e))) (jj : Int) (by omega) hjz
                  subst e1
                  simp only [Int.toNat_natCast] at hy
                  obtain ⟨cs, hcs⟩ : ∃ cs, cs = subR s9 r jj := ⟨_, rfl⟩
                  have hcl : cs.length = n := by rw [hcs, subR_length, HSL.out]
                  have hsc := subR_succ s9 r jj
                  rw [← hcs] at HI5 hsc
                  have hcell := (blk_cell HI5.out jj).trans (show ((cs.map (Value.int .i64)).toArray[jj]?) = some (.int .i64 (rd cs jj)) by simp [rd, List.getD_eq_getElem?_getD, show jj < cs.length by omega])
                  have hfz := blk_frozen HI5.out jj
                  have HP := Aside0.mk (show intBlk (wr.setCell ⟨gs, jj, none⟩ (.int .i64 (wrap64 (rd cs jj - rd r jj)))) gs (subR s9 r (jj + 1)) from blk_put HI5.out jj _ (by simp [hsc]))
                  have HT6 := Aside0.mk (HT5.out.set ⟨gs, jj, none⟩ (.inl rfl) (.int .i64 (wrap64 (rd cs jj - rd r jj))))
                  clear hcs hsc hcl
                  go_wp2
                  go_roundg (r.length - (jj + 1))
                  case measure => omega
                  case rel => exact ⟨jj + 1, by omega, by omega, by go_num, HP, HT6⟩
                · have hjz : ¬ (jj : Int) < (r.length : Int) := by omega
                  have hje : jj = r.length := by omega
                  subst hje
                  rw [HSB.out] at HI5
                  go_wp2
                  go_roundg k3
                  case measure => have := HK.out; omega
                  case rel => exact ⟨i + 1, j1 + a.length, b2, ok2, by omega, by go_num, HB2, ⟨by have := HK.out; omega⟩, HJb, HALb, ⟨hSt.touch HST4.out HT5.out (fun q hq e => hgs2 q hq e)⟩, HI5, ⟨HTW.out.trans HT5.out (fun q h => .inl (.inr h))⟩, HOW⟩
      · have hz : ¬ (i : Int) < (R.length : Int) := by omega
        have hie : i = R.length := by omega
        subst hie
        rw [List.drop_length, esL] at H
        obtain rfl := Option.some.inj H
        have HJ3 := Aside0.mk (show j1 = J from HJ.out)
        clear H HM
        go_wp2
        go_ret
        exact ⟨rfl, ok1, by rw [← HJ3.out]; exact HST.out, HS.out, HT.out, HO.out⟩
end Go.Proofs.Ytkiloimggmpggaa
