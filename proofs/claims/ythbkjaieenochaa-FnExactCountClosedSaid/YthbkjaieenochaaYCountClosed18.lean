/- Texts of one chain, in build order. -/
import Derived.Test.YthbkjaieenochaaYCountClosed17
namespace Go.Proofs.Ythbkjaieenochaa.L
open Go.RowKit Go.Proofs.Ythbkjaieenochaa Go.Proofs.Ythbkjaieenochaa.P Go.Proofs.YthbkjaieenochaaW.PrintWords Go.Proofs.YthbkjaieenochaaW.PrintLast Go.Proofs.YthbkjaieenochaaW.PrintMore
set_option linter.unusedVariables false
set_option linter.unusedSimpArgs false

/-- The points of a line come back, and a side. -/
def RetWy (W : World) (P : List (List Int)) (s : Int) (e : Ending) (w' : World) : Prop := ∃ v0_ : Value, e = .returned (.tuple #[v0_, .int .i64 s]) ∧ Kd.S (Kd.slice 3 (Kd.int .i64)) 28 w' W.heap.size (fun _ => True) v0_ P ∧ Below W.heap.size W w'
theorem way_F {w' : World} {B N : Nat} {P : List (List Int)} {A : Option Addr} {L c : Nat} (h : Kd.S (Kd.slice 3 (Kd.int .i64)) 28 w' B (fun _ => True) (.slice A L c) P) (hN : N ≤ B) : Kd.F (Kd.slice 3 (Kd.int .i64)) w' (fun k => N ≤ k) A P.length P := by
 have h1 := Kd.S_mono (ok' := fun k => N ≤ k) (Kd.S_bound h) (fun k hk => Nat.le_trans hN hk.2.1)
 obtain ⟨rfl, _, _⟩ := Kd.S_reads' h
 exact Kd.R_F (Kd.S_R h1)
def okM (a b : Nat) : Nat → Prop := fun k => a ≤ k ∧ k < b
def BoxL (W : World) (gb n : Nat) (Aa : Option Addr) (la ca : Nat) (Ad : Option Addr) (ld cd : Nat) : Prop := W.heap[gb]? = some (.cells #[.int .i64 n, .slice Aa la ca, .slice Ad ld cd] 50 (0, 0))
/-- All that is known of a sign matrix's lines. -/
structure CcFacts (l : List (List Int)) (n : Nat) (a d E : List (List Int)) (TB P : Nat → List (List Int)) (sd : Nat → Int) : Prop where
 n1 : 1 ≤ n ∧ n ≤ 6
 EL : E.length = 2 * n
 E3 : ∀ k, k < E.length → (E.getD k []).length = 3
 TB0 : TB 0 = zerosT n
 TS : ∀ k, k < E.length → TB (k + 1) = mkL (TB k) (P k)
 TO : ∀ k, k ≤ E.length → SqB n (TB k)
 PI : ∀ k, k < E.length → (P k).length ≤ 144 ∧ ∀ p ∈ P k, InP n p
 WY : ∀ k, k < E.length → ∃ kw, spec_loWay.f kw n a d (rd (E.getD k []) 1) (rd (E.getD k []) 2) (rd (E.getD k []) 0) = some (P k, sd k)
theorem ccFacts {l : List (List Int)} (hs : isSign l = true) : CcFacts l l.length (acM l) (dnM l) (endsL l.length) (endT l) (fun k => (lineOf l ((endsL l.length).getD k [])).1) (fun k => (lineOf l ((endsL l.length).getD k [])).2.1) := by
 obtain ⟨h1, h2, _, _⟩ := isSign_facts hs
 have hE := ends_all h1 h2
 refine ⟨⟨h1, h2⟩, hE.len, fun k hk => (end_ok hs (ends_at hE k hk)).1, rfl, fun k hk => endT_succ l k hk, fun k hk => endT_ok hs k hk, fun k hk => line_in hs (ends_at hE k hk), fun k hk => ?_⟩
 exact (loWay_ev (lp_of hs) (bits_of l) _ _ _ _ (end_ok hs (ends_at hE k hk)).2 (lineOf_ok hs (ends_at hE k hk))).rounds
/-- The count, point by point. -/
structure CcF2 (l : List (List Int)) (n : Nat) (a d : List (List Int)) (T0 : List (List Int)) (CT : Nat → List (List Int) × Nat) (CR : Nat → Nat → List (List Int) × Nat) (WA : Nat → Nat → List (List Int)) (SF : Nat → Nat → Nat) (SV : Nat → Nat → List Int) : Prop where
 C0 : CT 0 = (T0, 0)
 R0 : ∀ i, CR i 0 = CT i
 R1 : ∀ i j, i < n → j < n → rd ((CR i j).1.getD i []) j = 1 → CR i (j + 1) = CR i j
 R2 : ∀ i j, i < n → j < n → rd ((CR i j).1.getD i []) j = 0 → CR i (j + 1) = (mkL (CR i j).1 (WA i j), (CR i j).2 + 1)
 CS : ∀ i, CT (i + 1) = CR i n
 OK : ∀ i j, i < n → j ≤ n → SqB n (CR i j).1 ∧ (CR i j).2 ≤ 100
 OT : ∀ i, i ≤ n → (CT i).2 ≤ 100
 WI : ∀ i j, i < n → j < n → (WA i j).length ≤ 144 ∧ ∀ p ∈ WA i j, InP n p
 SI : ∀ i j, i < n → j < n → SF i j ≤ 3 ∧ (SV i j).length = 4 ∧ rd (SV i j) (SF i j : Nat) = 1 ∧ ∀ s : Nat, s < SF i j → rd (SV i j) s = 0
 SD : ∀ i j : Nat, i < n → j < n → spec_loSides.f n a d i j = some (SV i j)
 WY : ∀ i j : Nat, i < n → j < n → ∃ kw s, spec_loWay.f kw n a d i j (SF i j : Nat) = some (WA i j, s)
 FIN : (CT n).2 = closedN l
theorem ccF2 {l : List (List Int)} (hs : isSign l = true) : CcF2 l l.length (acM l) (dnM l) (endT l (endsL l.length).length) (ccT l (endT l (endsL l.length).length, 0)) (fun i j => ccR l (ccT l (endT l (endsL l.length).length, 0) i) i j) (fun i j => (wayAt l i j).1) (sideF l) (fun i j => sidesL (acM l) (dnM l) i j) := by
 obtain ⟨h1, h2, _, _⟩ := isSign_facts hs
 have h0 : SqB l.length (endT l (endsL l.length).length, 0).1 := endT_ok hs _ (Nat.le_refl _)
 have hT := fun i hi => ccT_ok hs h0 i hi
 have hR := fun i j hi hj => ccR_ok hs hi (hT i (Nat.le_of_lt hi)).1 j hj
 refine ⟨rfl, fun i => rfl, fun i j hi hj hx => ?_, fun i j hi hj hx => ?_, fun i => rfl, fun i j hi hj => ⟨(hR i j hi hj).1, ?_⟩, fun i hi => ?_, fun i j hi hj => wayAt_in hs hi hj, fun i j hi hj => ?_, fun i j hi hj => sides_f (lp_of hs) (in_sq hi hj) _, fun i j hi hj => ?_, rfl⟩
 ·show ccS l _ i j = _
  unfold ccS; rw [if_pos hx]
 ·show ccS l _ i j = _
  unfold ccS; rw [if_neg (by rw [hx]; decide)]
 ·have := (hR i j hi hj).2; have := (hT i (Nat.le_of_lt hi)).2; simp only at *; omega
 ·have := (hT i hi).2; simp only at *; omega
 ·obtain ⟨q1, q2, q3⟩ := sideF_ok hs hi hj
  refine ⟨q1, by simp [sidesL], ?_, fun s hs2 => ?_⟩
  ·rw [sides_rd (bits_of l) (in_sq hi hj) (by omega) (by omega), if_pos q2]
  ·rw [sides_rd (bits_of l) (in_sq hi hj) (by omega) (by omega), if_neg (by rw [q3 s hs2]; simp)]
 ·obtain ⟨k, hk⟩ := (loWay_ev (lp_of hs) (bits_of l) _ _ _ _ (cell_ok hs hi hj) (wayAt_ok hs hi hj)).rounds
  exact ⟨k, _, hk⟩
set_option maxHeartbeats 8000000 in
set_option maxRecDepth 100000 in
theorem spec_CountClosed.callsT (A0 : Option Addr) (c0 : Nat) (l : List (List Int)) (w : World) (hs : isSign l = true) (hf : fewRows l) (hr0 : Kd.C (Kd.slice 3 (Kd.int .i64)) w A0 l.length l) (hc0 : l.length ≤ c0) :
  Calls Try.prog 26 #[.slice A0 l.length c0] w fun e w' => e = .returned (.tuple #[.int .i64 (closedN l : Nat), .bool true]) ∧ Below w.heap.size w w' := by
 have hF := ccFacts hs
 have hF2 := ccF2 hs
 obtain ⟨kg, hkg⟩ := (sgGood_ev l hf).rounds
 rw [hs] at hkg
 obtain ⟨kl, hkl⟩ := (loOf_ev l hs).rounds
 obtain ⟨ke, hke⟩ := (ends_ev2 (ends_all (isSign_facts hs).1 (isSign_facts hs).2.1)).rounds
 obtain ⟨kz, hkz⟩ := (sgZero_ev l.length (by have := (isSign_facts hs).2.1; omega)).rounds
 have HGD := Aside0.mk (fun W hb => spec_sgGood.calls kg A0 c0 l true W (Kd.C_below hr0 hb) hc0 hkg)
 have HLO := Aside0.mk (fun W hb => spec_loOf.calls kl A0 c0 l _ _ _ W (Kd.C_below hr0 hb) hc0 hkl)
 obtain ⟨n, hn⟩ : ∃ n, n = l.length := ⟨_, rfl⟩
 obtain ⟨E, hE⟩ : ∃ E, E = endsL l.length := ⟨_, rfl⟩
 obtain ⟨P, hP⟩ : ∃ P : Nat → List (List Int), P = fun k => (lineOf l ((endsL l.length).getD k [])).1 := ⟨_, rfl⟩
 obtain ⟨sd, hsd⟩ : ∃ P : Nat → Int, P = fun k => (lineOf l ((endsL l.length).getD k [])).2.1 := ⟨_, rfl⟩
 obtain ⟨a, ha⟩ : ∃ a, a = acM l := ⟨_, rfl⟩
 obtain ⟨d, hd⟩ : ∃ d, d = dnM l := ⟨_, rfl⟩
 obtain ⟨TB, hTB⟩ : ∃ T, T = endT l := ⟨_, rfl⟩
 rw [← hE, ← hTB, ← ha, ← hd, ← hn] at hF2
 obtain ⟨CT, hCT⟩ : ∃ C, C = ccT l (TB E.length, 0) := ⟨_, rfl⟩
 obtain ⟨CR, hCR⟩ : ∃ C : Nat → Nat → List (List Int) × Nat, C = fun i j => ccR l (ccT l (TB E.length, 0) i) i j := ⟨_, rfl⟩
 obtain ⟨WA, hWA⟩ : ∃ C : Nat → Nat → List (List Int), C = fun i j => (wayAt l i j).1 := ⟨_, rfl⟩
 obtain ⟨SV, hSV⟩ : ∃ C : Nat → Nat → List Int, C = fun (i j : Nat) => sidesL a d i j := ⟨_, rfl⟩
 obtain ⟨SF, hSF⟩ : ∃ C, C = sideF l := ⟨_, rfl⟩
 rw [← hCR, ← hCT, ← hWA, ← hSV, ← hSF] at hF2
 have HF2 := Aside0.mk hF2
 rw [← hP, ← hsd, ← hE, ← hTB, ← ha, ← hd, ← hn] at hF
 rw [← ha, ← hd, ← hn] at HLO
 rw [← hE, ← hn] at hke
 rw [← hn] at hkz HGD ⊢
 have HEN := Aside0.mk (fun W => spec_loEnds.calls ke (n : Int) E W hke)
 have HZR := Aside0.mk (fun W => spec_sgZero.calls kz (n : Int) (zerosT n) W hkz)
 have HF := Aside0.mk hF
 obtain ⟨hn1, hn6⟩ := hF.n1
 have HEL := Aside0.mk hF.EL
 have hle : E.length ≤ 12 := by have := hF.EL; omega
 have HNL := Aside0.mk hn
 have hu50 := Try.underlying50
 clear hr0 hc0 hkg hkl hke hkz hF hP hsd ha hd hTB hE hn hf hs hF2 hCT hCR hWA hSV hSF
 go_enter Try.func26, Try.ntmps26
 go_wp2_with (first
  | (go_at_call 41; refine (HGD.out _ (Below.refl _ _)).mono ?_; rintro e w1 ⟨rfl, hb⟩; have HB1 := Aside0.mk hb; clear hb)
  | (go_at_call 42; refine (HLO.out _ HB1.out).mono ?_; rintro e w7 ⟨va, vd, rfl, hSa, hSd, hb⟩; obtain ⟨Aa, ca, rfl⟩ := Kd.S_slice hSa; obtain ⟨Ad, cd, rfl⟩ := Kd.S_slice hSd; have HAa := Aside0.mk (Kd.S_reads' hSa).2.2; have HAc := Aside0.mk (Kd.S_reads' hSa).2.1; have HDa := Aside0.mk (Kd.S_reads' hSd).2.2; have HDc := Aside0.mk (Kd.S_reads' hSd).2.1; have HB7 := Aside0.mk (below_step HB1.out hb); clear hSa hSd hb)
  | ((with_reducible refine gate_dst (N := 4) rfl ?_); refine box_event ?hg (N := 4) ?hd (cs := #[.int .i64 0, .slice none 0 0, .slice none 0 0]) (t := 50) ?hr ?_; (case hd => rfl); (case hg => rfl); (case hr => first | (go_simp; done) | (go_simp; rfl)); intro gb hg w8 hbox hb; have BK := Aside0.mk hbox; have HB8 := Aside0.mk hb; have HGB := Aside0.mk (show w7.heap.size ≤ gb by rw [hg]; exact Nat.le_refl _); clear hbox hb hg; have hcz0 : w8.cell? ⟨gb, 0, none⟩ = some (.int .i64 0) := (blk_cell BK.out 0).trans rfl; have hcz1 : w8.cell? ⟨gb, 1, none⟩ = some (.slice none 0 0) := (blk_cell BK.out 1).trans rfl; have hcz2 : w8.cell? ⟨gb, 2, none⟩ = some (.slice none 0 0) := (blk_cell BK.out 2).trans rfl; have hfz0 := blk_frozen BK.out 0; have hfz1 := blk_frozen BK.out 1; have hfz2 := blk_frozen BK.out 2)
  | (go_at_call 52; obtain ⟨w9, hw9⟩ : ∃ w9, w9 = ((w8.setCell ⟨gb, 0, none⟩ (.int .i64 n)).setCell ⟨gb, 1, none⟩ (.slice Aa a.length ca)).setCell ⟨gb, 2, none⟩ (.slice Ad d.length cd) := ⟨_, rfl⟩; rw [← hw9]; have BK9 := Aside0.mk (show BoxL w9 gb n Aa a.length ca Ad d.length cd from by unfold BoxL; rw [hw9]; refine blk_put (cs := #[.int .i64 n, .slice Aa a.length ca, .slice none 0 0]) ?_ 2 _ rfl; refine blk_put (cs := #[.int .i64 n, .slice none 0 0, .slice none 0 0]) ?_ 1 _ rfl; exact blk_put (cs := #[.int .i64 0, .slice none 0 0, .slice none 0 0]) BK.out 0 _ rfl); have hb9 : Below w7.heap.size w7 w9 := (by rw [hw9]; exact ((HB8.out.setCell (p := ⟨gb, 0, none⟩) HGB.out _).setCell (p := ⟨gb, 1, none⟩) HGB.out _).setCell (p := ⟨gb, 2, none⟩) HGB.out _); have HA9 := Aside0.mk (Kd.C_below HAa.out hb9); have HD9 := Aside0.mk (Kd.C_below HDa.out hb9); have HB9 := Aside0.mk (below_step HB7.out hb9); clear hb9 hw9 HAa HDa HB7 BK hcz0 hcz1 hcz2 hfz0 hfz1 hfz2; refine (HZR.out _).mono ?_; rintro e w10 ⟨v, rfl, hS, hb⟩; obtain ⟨g, c, rfl, _⟩ := Kd.S_form hS (by simp [zerosT]; omega); rw [show (zerosT n).length = n by simp [zerosT]] at hS ⊢; obtain ⟨row, hsm⟩ := SM.of_S (Kd.S_mono (ok' := okM w9.heap.size w10.heap.size) (Kd.S_bound hS) (fun k hk => ⟨hk.2.1, hk.2.2.1⟩)) (by simp [zerosT]) (zeros_ok n).row; have HSM := Aside0.mk hsm; have HL10 := Aside0.mk hb; clear hS hb hsm)
  | (go_at_call 43; refine (HEN.out _).mono ?_; rintro e w11 ⟨v, rfl, hS, hb⟩; obtain ⟨ge, ce, rfl, _⟩ := Kd.S_form hS (by have := HEL.out; omega); have HFE := Aside0.mk (way_F hS (Nat.le_refl _)); have HSM1 := Aside0.mk (HSM.out.below hb); have HSZ := Aside0.mk hb.size; have HL1 := Aside0.mk (below_step HL10.out hb); clear hS hb))
 have HCL := Aside0.mk (fun (W' : World) (x y z : Int) (P : List (List Int)) (s : Int) (hb : Below w9.heap.size w9 W') (h : ∃ kw, spec_loWay.f kw n a d x y z = some (P, s)) => show Calls Try.prog 44 #[.agg #[.int .i64 n, .slice Aa a.length ca, .slice Ad d.length cd], .int .i64 x, .int .i64 y, .int .i64 z] W' (RetWy W' P s) from by obtain ⟨kw, hk⟩ := h; exact spec_loWay.calls kw n Aa ca a Ad cd d x y z P s W' (Kd.C_below HA9.out hb) HAc.out (Kd.C_below HD9.out hb) HDc.out hk)
 have HSD := Aside0.mk (fun (W' : World) (i j : Nat) (hb : Below w9.heap.size w9 W') (hi : i < n) (hj : j < n) => spec_loSides.calls n Aa ca a Ad cd d i j (SV i j) W' (Kd.C_below HA9.out hb) HAc.out (Kd.C_below HD9.out hb) HDc.out (HF2.out.SD i j hi hj))
 clear HSM HL10 HGD HLO HEN HZR
 go_loopg [34] E.length (fun gg s34 wr => ∃ k : Nat, k ≤ E.length ∧ E.length - k ≤ gg ∧ s34 = .int .i64 k ∧ Aside0 (SM wr w9.heap.size (okM w9.heap.size w10.heap.size) g c n (TB k) row) ∧ Aside0 (Kd.F (Kd.slice 3 (Kd.int .i64)) wr (fun k => w10.heap.size ≤ k) (some ⟨ge, 0, none⟩) E.length E) ∧ Aside0 (w10.heap.size ≤ wr.heap.size) ∧ Aside0 (Below w9.heap.size w9 wr))
 case atStart => exact ⟨0, by omega, by omega, by go_num, ⟨by rw [HF.out.TB0]; exact HSM1.out⟩, HFE, HSZ, HL1⟩
 case round =>
  clear HSM1 HFE HSZ HL1
  obtain ⟨k, hk, hgk, rfl, HSM, HFE, HSZ, HL⟩ := hrel
  by_cases hlt : k < E.length
  ·have hz : (k : Int) < (E.length : Int) := by omega
   obtain ⟨ad, cs, hA, hcl1, hFK, hcell, _⟩ := Kd.F_get HFE.out ([] : List Int) (k : Int) (by omega) (by omega)
   obtain ⟨Ar, cr, rfl, hcr, hFr⟩ := Kd.FK_slice_open hFK
   have hx := hcell 0 _ rfl
   rw [Int.toNat_natCast, show (Kd.slice 3 (Kd.int .i64)).sz = 1 from rfl, Nat.mul_one, Nat.add_zero] at hx
   rw [Int.toNat_natCast] at hFr
   have he3 := HF.out.E3 k hlt
   have hwy := HF.out.WY k hlt
   obtain ⟨e, he⟩ : ∃ e, e = E.getD k [] := ⟨_, rfl⟩
   rw [← he] at hx hFr he3 hwy
   obtain rfl : ad = ⟨ge, 0, none⟩ := (by injection hA with hA; exact hA.symm)
   obtain ⟨ae, e0, hr0⟩ := Kd.at_int (Kd.F_now hFr) 0 (by omega) (by omega)
   cases e0
   obtain ⟨ae', e0, hr1⟩ := Kd.at_int (Kd.F_now hFr) 1 (by omega) (by omega)
   obtain rfl : ae = ae' := (by injection e0)
   obtain ⟨ae', e0, hr2⟩ := Kd.at_int (Kd.F_now hFr) 2 (by omega) (by omega)
   obtain rfl : ae = ae' := (by injection e0)
   simp only [show (0 : Int).toNat = 0 from rfl, show (1 : Int).toNat = 1 from rfl, show (2 : Int).toNat = 2 from rfl, Nat.reduceMul, Nat.reduceEqDiff, Go.Addr.add, ↓reduceIte] at hr0 hr1 hr2
   rw [he3] at hx
   replace hx : wr.cell? ⟨ge, k, none⟩ = some (.slice (some ae) 3 cr) := by first | (rw [add_plain] at hx; exact hx) | (rw [add_at, Nat.zero_add] at hx; exact hx)
   have hb0 : wr.cell? ⟨gb, 0, none⟩ = some (.int .i64 n) := (blk_cell (blk_below BK9.out HL.out) 0).trans rfl
   have hb1 : wr.cell? ⟨gb, 1, none⟩ = some (.slice Aa a.length ca) := (blk_cell (blk_below BK9.out HL.out) 1).trans rfl
   have hb2 : wr.cell? ⟨gb, 2, none⟩ = some (.slice Ad d.length cd) := (blk_cell (blk_below BK9.out HL.out) 2).trans rfl
   clear hFK hcell hFr hcr hcl1 he
   go_wp2
   have HBC := Aside0.mk (Below.refl wr.heap.size wr)
   obtain ⟨p, hp⟩ : ∃ p, p = P k := ⟨_, rfl⟩
   have HP := Aside0.mk hp
   have HPI := Aside0.mk (HF.out.PI k hlt)
   rw [← hp] at hwy HPI
   obtain ⟨s0, hs0⟩ : ∃ s, s = sd k := ⟨_, rfl⟩
   rw [← hs0] at hwy
   obtain ⟨x1, hx1⟩ : ∃ x, x = rd e 1 := ⟨_, rfl⟩
   obtain ⟨x2, hx2⟩ : ∃ x, x = rd e 2 := ⟨_, rfl⟩
   obtain ⟨x0, hx0⟩ : ∃ x, x = rd e 0 := ⟨_, rfl⟩
   rw [← hx1] at hr1 hwy
   rw [← hx2] at hr2 hwy
   rw [← hx0] at hr0 hwy
   have HWC := Aside0.mk (fun W' hb => HCL.out W' x1 x2 x0 p s0 hb hwy)
   clear hwy hp hs0 hx1 hx2 hx0
   go_region_held3 (fun W1 => W1.cell? ⟨gb, 0, none⟩ = some (.int .i64 n) ∧ W1.cell? ⟨gb, 1, none⟩ = some (.slice Aa a.length ca) ∧ W1.cell? ⟨gb, 2, none⟩ = some (.slice Ad d.length cd) ∧ W1.cell? ⟨ae.block, ae.off + 1, none⟩ = some (.int .i64 x1) ∧ W1.cell? ⟨ae.block, ae.off + 2, none⟩ = some (.int .i64 x2) ∧ W1.cell? ae = some (.int .i64 x0)) (first | (exact ⟨hb0, hb1, hb2, hr1, hr2, hr0⟩) | (exact ⟨hq1, hq2, hq3, hq4, hq5, hq6⟩)) (first
    | (go_at_call 44; refine (HWC.out _ ?hbY).mono ?_; (case hbY => exact HL.out.trans (Below.mono (by repeat (first | exact HBC.out | refine below_drew ?_)) HL.out.size)); rintro e w5 ⟨v, rfl, hS, hb⟩; have hb5 : Below wr.heap.size wr w5 := Below.trans (by repeat (first | exact HBC.out | refine below_drew ?_)) (hb.mono (Below.size (B := wr.heap.size) (by repeat (first | exact HBC.out | refine below_drew ?_)))); obtain ⟨Aw, cw, rfl⟩ := Kd.S_slice hS; have HW5 := Aside0.mk (way_F (N := w10.heap.size) hS (Nat.le_trans HSZ.out (Below.size (B := wr.heap.size) (by repeat (first | exact HBC.out | refine below_drew ?_))))); have HB5 := Aside0.mk hb5; have hq1 := pw_cell_below hb5 hb0; have hq2 := pw_cell_below hb5 hb1; have hq3 := pw_cell_below hb5 hb2; have hq4 := pw_cell_below hb5 hr1; have hq5 := pw_cell_below hb5 hr2; have hq6 := pw_cell_below hb5 hr0; clear hS hb hb5))
   all_goals
    have HS5 := Aside0.mk (HSM.out.below HB5.out)
    have HE5 := Aside0.mk (Kd.F_below HFE.out HB5.out)
    have HZ5 := Aside0.mk (Nat.le_trans HSZ.out HB5.out.size)
    have HL5 := Aside0.mk (HL.out.trans (HB5.out.mono HL.out.size))
    clear HSM HFE HSZ HL HBC HB5 HWC hb0 hb1 hb2 hr1 hr2 hr0 hq1 hq2 hq3 hq4 hq5 hq6 hx
    go_wp2
    obtain ⟨wo, rfl⟩ : ∃ wo : World, wo = wr := ⟨_, rfl⟩
    go_loopg [54] p.length (fun gg sI wr => ∃ q : Nat, q ≤ p.length ∧ p.length - q ≤ gg ∧ sI = .int .i64 q ∧ Aside0 (SM wr w9.heap.size (okM w9.heap.size w10.heap.size) g c n (mkL (TB k) (p.take q)) row) ∧ Aside0 (Kd.F (Kd.slice 3 (Kd.int .i64)) wr (fun k => w10.heap.size ≤ k) (some ⟨ge, 0, none⟩) E.length E) ∧ Aside0 (Kd.F (Kd.slice 3 (Kd.int .i64)) wr (fun k => w10.heap.size ≤ k) Aw p.length p) ∧ Aside0 (w10.heap.size ≤ wr.heap.size) ∧ Aside0 (Below w9.heap.size w9 wr))
    case atStart => exact ⟨0, by omega, by omega, by go_num, HS5, HE5, HW5, HZ5, HL5⟩
    case round =>
     clear HS5 HE5 HW5 HZ5 HL5
     obtain ⟨q, hq, hgq, rfl, HSM, HFE, HFW, HSZ, HL⟩ := hrel
     have hp144 : p.length ≤ 144 := HPI.out.1
     by_cases hqlt : q < p.length
     ·have hzq : (q : Int) < (p.length : Int) := by omega
      obtain ⟨ad2, cs, hA, hcl1, hFK, hcell, _⟩ := Kd.F_get HFW.out ([] : List Int) (q : Int) (by omega) (by omega)
      obtain ⟨Ar2, cr2, rfl, hcr, hFr⟩ := Kd.FK_slice_open hFK
      have hx2 := hcell 0 _ rfl
      rw [Int.toNat_natCast, show (Kd.slice 3 (Kd.int .i64)).sz = 1 from rfl, Nat.mul_one, Nat.add_zero] at hx2
      rw [Int.toNat_natCast] at hFr
      have hgd := getD_at p [] q hqlt
      obtain ⟨pi, pj, hpe, hi, hj⟩ := HPI.out.2 p[q] (List.getElem_mem hqlt)
      have hpq : p.getD q [] = [(pi : Int), (pj : Int)] := hgd.trans hpe
      rw [hpq] at hx2 hFr
      subst hA
      obtain ⟨ae2, e0, hr20⟩ := Kd.at_int (Kd.F_now hFr) 0 (by omega) (by simp)
      cases e0
      obtain ⟨ae2', e0, hr21⟩ := Kd.at_int (Kd.F_now hFr) 1 (by omega) (by simp)
      obtain rfl : ae2 = ae2' := (by injection e0)
      simp only [show (0 : Int).toNat = 0 from rfl, show (1 : Int).toNat = 1 from rfl, Nat.reduceMul, Nat.reduceEqDiff, Go.Addr.add, ↓reduceIte] at hr20 hr21
      replace hr20 : wr.cell? ae2 = some (.int .i64 (pi : Int)) := hr20
      rw [show rd [(pi : Int), (pj : Int)] 1 = (pj : Int) from rfl] at hr21
      replace hx2 : wr.cell? (ad2.add q) = some (.slice (some ae2) 2 cr2) := hx2
      obtain ⟨gp, ci, hrow, hci, hgB, hgok, hgl, hcij, hfrz, hput⟩ := HSM.out.putW pi pj hi hj
      have hrc := HSM.out.rw pi hi
      rw [hrow] at hrc
      have HNX := Aside0.mk (show mkL (TB k) (p.take (q + 1)) = putT (mkL (TB k) (p.take q)) pi pj 1 by rw [mkL_take _ _ q hqlt, hpq]; rfl)
      have HPUT := Aside0.mk (fun W' hb => (hput W' hb).2 1)
      have HGK := Aside0.mk (show gp < w10.heap.size from hgok.2)
      have HGB2 := Aside0.mk hgB
      have hzi : (pi : Int) < (n : Int) := by omega
      have hzj : (pj : Int) < (n : Int) := by omega
      clear hFK hcell hcl1 hgd hpe hpq hFr hcr hrow hci hgB hgok hput hgl
      go_wp2
      go_region
      all_goals
       go_wp2
       go_roundg (p.length - (q + 1))
       case measure => omega
       case rel => exact ⟨q + 1, by omega, by omega, by go_num, ⟨by rw [HNX.out]; exact (HPUT.out wr (Below.refl _ _)).below (below_drew (Below.refl _ _))⟩, ⟨Kd.F_drew (Kd.F_far HFE.out (fun k hk e => by have := HGK.out; simp only at hk e; omega) _)⟩, ⟨Kd.F_drew (Kd.F_far HFW.out (fun k hk e => by have := HGK.out; simp only at hk e; omega) _)⟩, ⟨Nat.le_trans HSZ.out (Below.size (below_drew (Below.setCell (p := ⟨gp, pj, none⟩) (Below.refl 0 wr) (Nat.zero_le _) (.int .i64 1))))⟩, ⟨below_drew (Below.setCell (p := ⟨gp, pj, none⟩) HL.out HGB2.out _)⟩⟩
     ·have hzq : ¬ (q : Int) < (p.length : Int) := by omega
      have HS6 := Aside0.mk (show SM wr w9.heap.size (okM w9.heap.size w10.heap.size) g c n (mkL (TB k) p) row by have h_ := HSM.out; rwa [List.take_of_length_le (by omega)] at h_)
      clear HSM
      go_wp2
      go_roundg (E.length - (k + 1))
      case measure => omega
      case rel => exact ⟨k + 1, by omega, by omega, by go_num, ⟨by rw [HF.out.TS k hlt, ← HP.out]; exact HS6.out⟩, HFE, HSZ, HL⟩
  ·have hz : ¬ (k : Int) < (E.length : Int) := by omega
   have hSM0 := HSM.out
   rw [show k = E.length by omega] at hSM0
   have HSM0 := Aside0.mk (show SM wr w9.heap.size (okM w9.heap.size w10.heap.size) g c n (CT 0).1 row by rw [HF2.out.C0]; exact hSM0)
   have HC0 := Aside0.mk (show (CT 0).2 = 0 by rw [HF2.out.C0])
   clear hSM0 HSM
   go_wp2
   obtain ⟨wa, rfl⟩ : ∃ wa : World, wa = wr := ⟨_, rfl⟩
   go_loopg [12, 72] n (fun gg s12 s72 wr => ∃ i : Nat, i ≤ n ∧ n - i ≤ gg ∧ s72 = .int .i64 i ∧ s12 = .int .i64 ((CT i).2 : Nat) ∧ Aside0 (SM wr w9.heap.size (okM w9.heap.size w10.heap.size) g c n (CT i).1 row) ∧ Aside0 (Kd.F (Kd.slice 3 (Kd.int .i64)) wr (fun k => w10.heap.size ≤ k) (some ⟨ge, 0, none⟩) E.length E) ∧ Aside0 (w10.heap.size ≤ wr.heap.size) ∧ Aside0 (Below w9.heap.size w9 wr))
   case atStart => exact ⟨0, by omega, by omega, by go_num, by rw [HC0.out]; go_num, HSM0, HFE, HSZ, HL⟩
   case round =>
    clear HSM0 HFE HSZ HL HC0
    obtain ⟨i, hi, hgi, rfl, rfl, HSM, HFE, HSZ, HL⟩ := hrel
    by_cases hin : i < n
    ·have hzi : (i : Int) < (n : Int) := by omega
     obtain ⟨gi, ci, hrow, hci, _, _, _, _, _, _⟩ := HSM.out.put i 0 hin (by omega)
     have hrc := HSM.out.rw i hin
     rw [hrow] at hrc
     have HROW := Aside0.mk hrow
     have HSM0 := Aside0.mk (show SM wr w9.heap.size (okM w9.heap.size w10.heap.size) g c n (CR i 0).1 row by rw [HF2.out.R0]; exact HSM.out)
     have HC0 := Aside0.mk (show (CR i 0).2 = (CT i).2 by rw [HF2.out.R0])
     clear HSM hrow
     go_wp2
     obtain ⟨wb, rfl⟩ : ∃ wb : World, wb = wr := ⟨_, rfl⟩
     go_loopg [12, 79] n (fun gg s12 s79 wr => ∃ j : Nat, j ≤ n ∧ n - j ≤ gg ∧ s79 = .int .i64 j ∧ s12 = .int .i64 ((CR i j).2 : Nat) ∧ Aside0 (SM wr w9.heap.size (okM w9.heap.size w10.heap.size) g c n (CR i j).1 row) ∧ Aside0 (Kd.F (Kd.slice 3 (Kd.int .i64)) wr (fun k => w10.heap.size ≤ k) (some ⟨ge, 0, none⟩) E.length E) ∧ Aside0 (w10.heap.size ≤ wr.heap.size) ∧ Aside0 (Below w9.heap.size w9 wr))
     case atStart => exact ⟨0, by omega, by omega, by go_num, by rw [HC0.out], HSM0, HFE, HSZ, HL⟩
     case round =>
      clear HSM0 HFE HSZ HL HC0 hrc
      obtain ⟨j, hj, hgj, rfl, rfl, HSM, HFE, HSZ, HL⟩ := hrel
      by_cases hjn : j < n
      ·have hzj : (j : Int) < (n : Int) := by omega
       obtain ⟨gi', ci', hrow, _, _, _, _, hcij, _, _⟩ := HSM.out.put i j hin hjn
       have hbit := (HF2.out.OK i j hin hj).1.bit i j hin hjn
       have hcnt := (HF2.out.OK i j hin hj).2
       have HR1 := Aside0.mk (HF2.out.R1 i j hin hjn)
       have HR2 := Aside0.mk (HF2.out.R2 i j hin hjn)
       have e := hrow.symm.trans HROW.out
       injection e with e1 e2 e3
       injection e1 with e1
       injection e1 with e1
       subst e1
       obtain ⟨x, hx⟩ : ∃ x, x = rd ((CR i j).1.getD i []) j := ⟨_, rfl⟩
       rw [← hx] at hbit hcij
       have HX := Aside0.mk hx
       clear hx hrow e3
       by_cases hx1 : x = 1
       ·have HRE := Aside0.mk (HR1.out (by rw [← HX.out]; exact hx1))
        subst hx1
        clear hbit
        go_wp2
        go_roundg (n - (j + 1))
        case measure => omega
        case rel => exact ⟨j + 1, by omega, by omega, by go_num, by rw [HRE.out], ⟨by rw [HRE.out]; exact HSM.out⟩, HFE, HSZ, HL⟩
       ·have hx0 : x = 0 := hbit.resolve_right hx1
        have HRE := Aside0.mk (HR2.out (by rw [← HX.out]; exact hx0))
        subst hx0
        obtain ⟨cn, hcn⟩ : ∃ cn, cn = (CR i j).2 := ⟨_, rfl⟩
        rw [← hcn] at hcnt ⊢
        have HCN := Aside0.mk hcn
        obtain ⟨sf, hsf⟩ : ∃ s, s = SF i j := ⟨_, rfl⟩
        obtain ⟨sv, hsv⟩ : ∃ s, s = SV i j := ⟨_, rfl⟩
        have hsi := HF2.out.SI i j hin hjn
        rw [← hsf, ← hsv] at hsi
        obtain ⟨hsf3, hsvl, hsf1, hsf0⟩ := hsi
        have HSF1 := Aside0.mk hsf1
        have HSF0 := Aside0.mk hsf0
        have HSV := Aside0.mk hsv
        have HSF := Aside0.mk hsf
        clear hbit hx1 hcn hsf hsv hsf1 hsf0
        go_wp2
        clear hcij
        obtain ⟨wc, rfl⟩ : ∃ wc : World, wc = wr := ⟨_, rfl⟩
        go_loopg [17] sf (fun gg s17 wr => ∃ s : Nat, s ≤ sf ∧ sf - s ≤ gg ∧ s17 = .int .i64 s ∧ Aside0 (SM wr w9.heap.size (okM w9.heap.size w10.heap.size) g c n (CR i j).1 row) ∧ Aside0 (Kd.F (Kd.slice 3 (Kd.int .i64)) wr (fun k => w10.heap.size ≤ k) (some ⟨ge, 0, none⟩) E.length E) ∧ Aside0 (w10.heap.size ≤ wr.heap.size) ∧ Aside0 (Below w9.heap.size w9 wr))
        case atStart => exact ⟨0, by omega, by omega, by go_num, HSM, HFE, HSZ, HL⟩
        case round =>
         clear HSM HFE HSZ HL
         obtain ⟨s, hsle, hgs, rfl, HSM, HFE, HSZ, HL⟩ := hrel
         have hb0 : wr.cell? ⟨gb, 0, none⟩ = some (.int .i64 n) := (blk_cell (blk_below BK9.out HL.out) 0).trans rfl
         have hb1 : wr.cell? ⟨gb, 1, none⟩ = some (.slice Aa a.length ca) := (blk_cell (blk_below BK9.out HL.out) 1).trans rfl
         have hb2 : wr.cell? ⟨gb, 2, none⟩ = some (.slice Ad d.length cd) := (blk_cell (blk_below BK9.out HL.out) 2).trans rfl
         have hsd := HSD.out wr i j HL.out hin hjn
         rw [← HSV.out] at hsd
         have hzs : (s : Int) < 4 := by omega
         have hzs0 : 0 ≤ (s : Int) := by omega
         obtain ⟨xs, hxs⟩ : ∃ x, x = rd sv (s : Int) := ⟨_, rfl⟩
         have HXS := Aside0.mk hxs
         by_cases hlt2 : s < sf
         ·have hxs0 : xs = 0 := by rw [hxs]; exact HSF0.out s hlt2
          clear hxs
          subst hxs0
          go_wp2_with (go_at_call 53; refine hsd.mono ?_; rintro e w5 ⟨v, rfl, hR, hb⟩; obtain ⟨As, cs, rfl⟩ := Kd.R_slice hR; obtain ⟨ads, e0, hcs⟩ := Kd.at_int (Kd.R_reads' hR).2.2 (s : Int) (by omega) (by omega); cases e0; rw [← HXS.out, Int.toNat_natCast] at hcs; rw [hsvl]; have HB5 := Aside0.mk hb; clear hR hb)
          go_roundg (sf - (s + 1))
          case measure => omega
          case rel => exact ⟨s + 1, by omega, by omega, by go_num, ⟨HSM.out.below HB5.out⟩, ⟨Kd.F_below HFE.out HB5.out⟩, ⟨Nat.le_trans HSZ.out HB5.out.size⟩, ⟨HL.out.trans (HB5.out.mono HL.out.size)⟩⟩
         ·have hse : s = sf := by omega
          have hxs0 : xs = 1 := by rw [hxs, hse]; exact HSF1.out
          clear hxs
          subst hxs0
          obtain ⟨p, hp⟩ : ∃ p, p = WA i j := ⟨_, rfl⟩
          have HP := Aside0.mk hp
          have HPI := Aside0.mk (HF2.out.WI i j hin hjn)
          obtain ⟨kw, s0, hwy⟩ := HF2.out.WY i j hin hjn
          rw [← HSF.out, ← hse, ← hp] at hwy
          rw [← hp] at HPI
          have HWC := Aside0.mk (fun W' hb => HCL.out W' (i : Int) (j : Int) (s : Int) p s0 hb ⟨kw, hwy⟩)
          clear hwy hp hse
          go_wp2_with (first
           | (go_at_call 53; refine hsd.mono ?_; rintro e w5 ⟨v, rfl, hR, hb⟩; obtain ⟨As, cs, rfl⟩ := Kd.R_slice hR; obtain ⟨ads, e0, hcs⟩ := Kd.at_int (Kd.R_reads' hR).2.2 (s : Int) (by omega) (by omega); cases e0; rw [← HXS.out, Int.toNat_natCast] at hcs; rw [hsvl]; have hb0 := pw_cell_below hb hb0; have hb1 := pw_cell_below hb hb1; have hb2 := pw_cell_below hb hb2; have HB5 := Aside0.mk hb; clear hR hb)
           | (go_at_call 44; refine (HWC.out _ (HL.out.trans (HB5.out.mono HL.out.size))).mono ?_; rintro e w6 ⟨v, rfl, hS, hb⟩; obtain ⟨Aw, cw, rfl⟩ := Kd.S_slice hS; have HW5 := Aside0.mk (way_F (N := w10.heap.size) hS (Nat.le_trans HSZ.out HB5.out.size)); have HB6 := Aside0.mk (HB5.out.trans (hb.mono HB5.out.size)); clear hS hb))
          have HS5 := Aside0.mk (HSM.out.below HB6.out)
          have HE5 := Aside0.mk (Kd.F_below HFE.out HB6.out)
          have HZ5 := Aside0.mk (Nat.le_trans HSZ.out HB6.out.size)
          have HL5 := Aside0.mk (HL.out.trans (HB6.out.mono HL.out.size))
          clear HSM HFE HSZ HL HB5 HB6 HWC hb0 hb1 hb2 hsd hcs
          obtain ⟨wo, rfl⟩ : ∃ wo : World, wo = wr := ⟨_, rfl⟩
          go_loopg [108] p.length (fun gg sI wr => ∃ q : Nat, q ≤ p.length ∧ p.length - q ≤ gg ∧ sI = .int .i64 q ∧ Aside0 (SM wr w9.heap.size (okM w9.heap.size w10.heap.size) g c n (mkL ((CR i j).1) (p.take q)) row) ∧ Aside0 (Kd.F (Kd.slice 3 (Kd.int .i64)) wr (fun k => w10.heap.size ≤ k) (some ⟨ge, 0, none⟩) E.length E) ∧ Aside0 (Kd.F (Kd.slice 3 (Kd.int .i64)) wr (fun k => w10.heap.size ≤ k) Aw p.length p) ∧ Aside0 (w10.heap.size ≤ wr.heap.size) ∧ Aside0 (Below w9.heap.size w9 wr))
          case atStart => exact ⟨0, by omega, by omega, by go_num, HS5, HE5, HW5, HZ5, HL5⟩
          case round =>
           clear HS5 HE5 HW5 HZ5 HL5
           obtain ⟨q, hq, hgq, rfl, HSM, HFE, HFW, HSZ, HL⟩ := hrel
           have hp144 : p.length ≤ 144 := HPI.out.1
           by_cases hqlt : q < p.length
           ·have hzq : (q : Int) < (p.length : Int) := by omega
            obtain ⟨ad2, cs, hA, hcl1, hFK, hcell, _⟩ := Kd.F_get HFW.out ([] : List Int) (q : Int) (by omega) (by omega)
            obtain ⟨Ar2, cr2, rfl, hcr, hFr⟩ := Kd.FK_slice_open hFK
            have hx2 := hcell 0 _ rfl
            rw [Int.toNat_natCast, show (Kd.slice 3 (Kd.int .i64)).sz = 1 from rfl, Nat.mul_one, Nat.add_zero] at hx2
            rw [Int.toNat_natCast] at hFr
            have hgd := getD_at p [] q hqlt
            obtain ⟨pi, pj, hpe, hi, hj⟩ := HPI.out.2 p[q] (List.getElem_mem hqlt)
            have hpq : p.getD q [] = [(pi : Int), (pj : Int)] := hgd.trans hpe
            rw [hpq] at hx2 hFr
            subst hA
            obtain ⟨ae2, e0, hr20⟩ := Kd.at_int (Kd.F_now hFr) 0 (by omega) (by simp)
            cases e0
            obtain ⟨ae2', e0, hr21⟩ := Kd.at_int (Kd.F_now hFr) 1 (by omega) (by simp)
            obtain rfl : ae2 = ae2' := (by injection e0)
            simp only [show (0 : Int).toNat = 0 from rfl, show (1 : Int).toNat = 1 from rfl, Nat.reduceMul, Nat.reduceEqDiff, Go.Addr.add, ↓reduceIte] at hr20 hr21
            replace hr20 : wr.cell? ae2 = some (.int .i64 (pi : Int)) := hr20
            rw [show rd [(pi : Int), (pj : Int)] 1 = (pj : Int) from rfl] at hr21
            replace hx2 : wr.cell? (ad2.add q) = some (.slice (some ae2) 2 cr2) := hx2
            obtain ⟨gp, ci, hrow, hci, hgB, hgok, hgl, hcij, hfrz, hput⟩ := HSM.out.putW pi pj hi hj
            have hrc := HSM.out.rw pi hi
            rw [hrow] at hrc
            have HNX := Aside0.mk (show mkL ((CR i j).1) (p.take (q + 1)) = putT (mkL ((CR i j).1) (p.take q)) pi pj 1 by rw [mkL_take _ _ q hqlt, hpq]; rfl)
            have HPUT := Aside0.mk (fun W' hb => (hput W' hb).2 1)
            have HGK := Aside0.mk (show gp < w10.heap.size from hgok.2)
            have HGB2 := Aside0.mk hgB
            have hzi : (pi : Int) < (n : Int) := by omega
            have hzj : (pj : Int) < (n : Int) := by omega
            clear hFK hcell hcl1 hgd hpe hpq hFr hcr hrow hci hgB hgok hput hgl
            go_wp2
            go_region
            all_goals
             go_wp2
             go_roundg (p.length - (q + 1))
             case measure => omega
             case rel => exact ⟨q + 1, by omega, by omega, by go_num, ⟨by rw [HNX.out]; exact (HPUT.out wr (Below.refl _ _)).below (below_drew (Below.refl _ _))⟩, ⟨Kd.F_drew (Kd.F_far HFE.out (fun k hk e => by have := HGK.out; simp only at hk e; omega) _)⟩, ⟨Kd.F_drew (Kd.F_far HFW.out (fun k hk e => by have := HGK.out; simp only at hk e; omega) _)⟩, ⟨Nat.le_trans HSZ.out (Below.size (below_drew (Below.setCell (p := ⟨gp, pj, none⟩) (Below.refl 0 wr) (Nat.zero_le _) (.int .i64 1))))⟩, ⟨below_drew (Below.setCell (p := ⟨gp, pj, none⟩) HL.out HGB2.out _)⟩⟩
           ·have hzq : ¬ (q : Int) < (p.length : Int) := by omega
            have HS6 := Aside0.mk (show SM wr w9.heap.size (okM w9.heap.size w10.heap.size) g c n (mkL ((CR i j).1) p) row by have h_ := HSM.out; rwa [List.take_of_length_le (by omega)] at h_)
            clear HSM
            go_wp2
            go_roundg (n - (j + 1))
            case measure => omega
            case rel => exact ⟨j + 1, by omega, by omega, by go_num, by rw [HRE.out, ← HCN.out]; go_num, ⟨by rw [HRE.out, ← HP.out]; exact HS6.out⟩, HFE, HSZ, HL⟩
      ·have hzj : ¬ (j : Int) < (n : Int) := by omega
       have hcs := HF2.out.CS i
       rw [show CR i n = CR i j by rw [show j = n by omega]] at hcs
       have HCS := Aside0.mk hcs
       clear hcs
       go_wp2
       go_roundg (n - (i + 1))
       case measure => omega
       case rel => exact ⟨i + 1, by omega, by omega, by go_num, by rw [HCS.out], ⟨by rw [HCS.out]; exact HSM.out⟩, HFE, HSZ, HL⟩
    ·have hzi : ¬ (i : Int) < (n : Int) := by omega
     have HFN := Aside0.mk (show (CT i).2 = closedN l by rw [show i = n by omega]; exact HF2.out.FIN)
     go_wp2
     go_ret2
     exact ⟨by rw [HFN.out]; rfl, HB9.out.trans (HL.out.mono HB9.out.size)⟩
end Go.Proofs.Ythbkjaieenochaa.L
