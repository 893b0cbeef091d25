/- The program's CountClosed answers as the reference's CountClosed, for every table; the table stays as it was (the walk of the law FnExactCountClosed; no condition). -/
import Derived.Test.YthbkjaieenochaaYCountClosed18
namespace Go.Proofs.Ythbkjaieenochaa.L
open Go.RowKit Go.Proofs.Ythbkjaieenochaa Go.Proofs.Ythbkjaieenochaa.P Go.Proofs.YthbkjaieenochaaW.PrintWords Go.Proofs.YthbkjaieenochaaW.PrintLast Go.Proofs.YthbkjaieenochaaW.PrintMore
set_option linter.unusedVariables false
set_option linter.unusedSimpArgs false

/-- The variable that holds the table of marks. -/
def BoxM (W : World) (b6 g n c : Nat) : Prop := W.heap[b6]? = some (.cells #[.slice (some ⟨g, 0, none⟩) n c] 22 (0, 0))
/-- What the marking closure leaves. -/
def MkPost (W : World) (N1 N2 b6 g c n : Nat) (T : List (List Int)) (row : Nat → Value) (e : Ending) (w' : World) : Prop := e = .returned (.tuple #[]) ∧ SM w' N1 (okM N1 N2) g c n T row ∧ Below N1 W w' ∧ BoxM w' b6 g n c ∧ W.heap.size ≤ w'.heap.size
set_option maxHeartbeats 4000000 in
theorem closed_2.calls {N1 N2 b6 g c n : Nat} {T : List (List Int)} {row : Nat → Value} (P : List (List Int)) (A : Option Addr) (cp : Nat) (W : World) (hP : P.length ≤ 144 ∧ ∀ p ∈ P, InP n p) (hn6 : n ≤ 6) (hsm : SM W N1 (okM N1 N2) g c n T row) (hF : Kd.F (Kd.slice 3 (Kd.int .i64)) W (fun k => N2 ≤ k) A P.length P) (hb6 : BoxM W b6 g n c) (hN : N2 ≤ b6) :
  Calls Try.prog 56 #[.slice A P.length cp, .pointer (some ⟨b6, 0, none⟩)] W (MkPost W N1 N2 b6 g c n (mkL T P) row) := by
 have HPI := Aside0.mk hP
 have HS5 := Aside0.mk (show SM W N1 (okM N1 N2) g c n (mkL T (P.take 0)) row from hsm)
 have HW5 := Aside0.mk hF
 have HK5 := Aside0.mk hb6
 have HL5 := Aside0.mk (Below.refl N1 W)
 have HZ5 := Aside0.mk (Nat.le_refl W.heap.size)
 clear hP hsm hF hb6
 go_enter Try.func56, Try.ntmps56
 go_wp2
 go_loopg [7] P.length (fun gg sI wr => ∃ q : Nat, q ≤ P.length ∧ P.length - q ≤ gg ∧ sI = .int .i64 q ∧ Aside0 (SM wr N1 (okM N1 N2) g c n (mkL T (P.take q)) row) ∧ Aside0 (Kd.F (Kd.slice 3 (Kd.int .i64)) wr (fun k => N2 ≤ k) A P.length P) ∧ Aside0 (BoxM wr b6 g n c) ∧ Aside0 (W.heap.size ≤ wr.heap.size) ∧ Aside0 (Below N1 W wr))
 case atStart => exact ⟨0, by omega, by omega, by go_num, HS5, HW5, HK5, HZ5, HL5⟩
 case round =>
  clear HS5 HW5 HK5 HZ5 HL5
  obtain ⟨q, hq, hgq, rfl, HSM, HFW, HBK, HSZ, HL⟩ := hrel
  have hp144 : P.length ≤ 144 := HPI.out.1
  by_cases hqlt : q < P.length
  ·have hzq : (q : Int) < (P.length : Int) := by omega
   obtain ⟨ad2, cs, hA, hcl1, hFK, hcell, _⟩ := Kd.F_get HFW.out ([] : List Int) (q : Int) (by omega) (by omega)
   obtain ⟨Ar2, cr2, rfl, hcr, hFr⟩ := Kd.FK_slice_open hFK
   have hx2 := hcell 0 _ rfl
   rw [Int.toNat_natCast, show (Kd.slice 3 (Kd.int .i64)).sz = 1 from rfl, Nat.mul_one, Nat.add_zero] at hx2
   rw [Int.toNat_natCast] at hFr
   have hgd := getD_at P [] q hqlt
   obtain ⟨pi, pj, hpe, hi, hj⟩ := HPI.out.2 P[q] (List.getElem_mem hqlt)
   have hpq : P.getD q [] = [(pi : Int), (pj : Int)] := hgd.trans hpe
   rw [hpq] at hx2 hFr
   subst hA
   obtain ⟨ae2, e0, hr20⟩ := Kd.at_int (Kd.F_now hFr) 0 (by omega) (by simp)
   cases e0
   obtain ⟨ae2', e0, hr21⟩ := Kd.at_int (Kd.F_now hFr) 1 (by omega) (by simp)
   obtain rfl : ae2 = ae2' := (by injection e0)
   simp only [show (0 : Int).toNat = 0 from rfl, show (1 : Int).toNat = 1 from rfl, Nat.reduceMul, Nat.reduceEqDiff, Go.Addr.add, ↓reduceIte] at hr20 hr21
   replace hr20 : wr.cell? ae2 = some (.int .i64 (pi : Int)) := hr20
   rw [show rd [(pi : Int), (pj : Int)] 1 = (pj : Int) from rfl] at hr21
   replace hx2 : wr.cell? (ad2.add q) = some (.slice (some ae2) 2 cr2) := hx2
   obtain ⟨gp, ci, hrow, hci, hgB, hgok, hgl, hcij, hfrz, hput⟩ := HSM.out.putW pi pj hi hj
   have hrc := HSM.out.rw pi hi
   rw [hrow] at hrc
   have HNX := Aside0.mk (show mkL T (P.take (q + 1)) = putT (mkL T (P.take q)) pi pj 1 by rw [mkL_take _ _ q hqlt, hpq]; rfl)
   have HPUT := Aside0.mk (fun W' hb => (hput W' hb).2 1)
   have HGK := Aside0.mk (show gp < N2 from hgok.2)
   have HGB2 := Aside0.mk hgB
   have hzi : (pi : Int) < (n : Int) := by omega
   have hzj : (pj : Int) < (n : Int) := by omega
   have hbk : wr.cell? ⟨b6, 0, none⟩ = some (.slice (some ⟨g, 0, none⟩) n c) := blk_cell HBK.out 0
   have HNN := Aside0.mk hN
   clear hFK hcell hcl1 hgd hpe hpq hFr hcr hrow hci hgB hgok hput hgl hN
   go_wp2
   go_region
   all_goals
    go_wp2
    go_roundg (P.length - (q + 1))
    case measure => omega
    case rel => exact ⟨q + 1, by omega, by omega, by go_num, ⟨by rw [HNX.out]; exact (HPUT.out wr (Below.refl _ _)).below (below_drew (Below.refl _ _))⟩, ⟨Kd.F_drew (Kd.F_far HFW.out (fun k hk e => by have := HGK.out; simp only at hk e; omega) _)⟩, ⟨blk_drew (blk_far HBK.out (by have := HGK.out; have := HNN.out; intro e; simp only at e; omega) _)⟩, ⟨Nat.le_trans HSZ.out (Below.size (below_drew (Below.setCell (p := ⟨gp, pj, none⟩) (Below.refl 0 wr) (Nat.zero_le _) (.int .i64 1))))⟩, ⟨below_drew (Below.setCell (p := ⟨gp, pj, none⟩) HL.out HGB2.out _)⟩⟩
  ·have hzq : ¬ (q : Int) < (P.length : Int) := by omega
   have HS6 := Aside0.mk (show SM wr N1 (okM N1 N2) g c n (mkL T P) row by have h_ := HSM.out; rwa [List.take_of_length_le (by omega)] at h_)
   go_wp2
   go_end0
   exact ⟨rfl, HS6.out, HL.out, HBK.out, HSZ.out⟩
theorem zeros_tab (n : Nat) : tableL (fun _ _ => (0 : Int)) n n = zerosT n := by
 unfold tableL rowL zerosT
 refine List.ext_getElem (by simp) (fun i h1 h2 => ?_)
 simp only [List.getElem_map, List.getElem_replicate]
 exact List.ext_getElem (by simp) (fun i h1 h2 => by simp)
theorem closed_1.calls (i j : Nat) (W : World) : Gives Try.prog 55 #[.int .i64 i, .int .i64 j] W (.int .i64 0) := by
 unfold Gives
 go_enter Try.func55, Try.ntmps55
 go_wp2
 go_ret
 exact ⟨rfl, Below.refl _ _⟩
/-- What the program's functions give of a sign matrix's lines. -/
structure CcF3 (n : Nat) (a d : List (List Int)) (P : Nat → List (List Int)) (WA : Nat → Nat → List (List Int)) (SF : Nat → Nat → Nat) : Prop where
 FE : ∀ k : Nat, k < 2 * n → ∃ kk s, impl_Loops_fromEnd.f kk n a d k = some (P k, s)
 DR : ∀ i j s : Nat, i < n → j < n → s ≤ SF i j → impl_Loops_drawn.f n a d i j s = some (decide (s = SF i j))
 FO : ∀ i j : Nat, i < n → j < n → ∃ s, impl_Loops_follow.f n a d i j (SF i j : Nat) = some (WA i j, s)
theorem ccF3 {l : List (List Int)} (hs : isSign l = true) : CcF3 l.length (acM l) (dnM l) (fun k => (lineOf l ((endsL l.length).getD k [])).1) (fun i j => (wayAt l i j).1) (sideF l) := by
 refine ⟨fun k hk => ?_, fun i j s hi hj hss => ?_, fun i j hi hj => ?_⟩
 ·obtain ⟨kk, hkk⟩ := (fromEnd_ev hs k hk).rounds
  exact ⟨kk, _, hkk⟩
 ·obtain ⟨q1, q2, q3⟩ := sideF_ok hs hi hj
  rw [drawn_f (lp_of hs) (in_sq hi hj) (by omega) (by omega)]
  by_cases h : s = sideF l i j
  ·rw [h, q2]; simp
  ·rw [q3 s (by omega), decide_eq_false h]
 ·refine ⟨(foV l.length (wayAt l i j)).2, ?_⟩
  unfold impl_Loops_follow.f
  rw [Int.toNat_natCast, lpB_of (isSign_facts hs).1 (lp_of hs), okB_iff.2 (cell_ok hs hi hj), wayAt_ok hs hi hj]
  simp [foV]
set_option maxHeartbeats 8000000 in
set_option maxRecDepth 100000 in
theorem impl_CountClosed.callsT (A0 : Option Addr) (c0 : Nat) (l : List (List Int)) (w : World) (hs : isSign l = true) (hr0 : Kd.C (Kd.slice 3 (Kd.int .i64)) w A0 l.length l) (hc0 : l.length ≤ c0) :
  Calls Try.prog 27 #[.slice A0 l.length c0] w fun e w' => e = .returned (.tuple #[.int .i64 (closedN l : Nat), .bool true]) ∧ Below w.heap.size w w' := by
 have hF := ccFacts hs
 have hF2 := ccF2 hs
 have hF3 := ccF3 hs
 have hsg := impl_IsSignMatrix.calls' A0 c0 l w hr0 hc0
 rw [hs] at hsg
 have HSG := Aside0.mk hsg
 have eg1 : ∀ args w, (callFunc 55 args).run Try.prog w = .ok (.enter 55 args) w := enters_of Try.func55 (by kernel_rfl) rfl
 have eg : ∀ args w, (callFunc 56 args).run Try.prog w = .ok (.enter 56 args) w := enters_of Try.func56 (by kernel_rfl) rfl
 have HLO := Aside0.mk (fun W hb => impl_loops.calls A0 c0 l _ _ _ W (Kd.C_below hr0 hb) hc0 (loops_f hs))
 obtain ⟨n, hn⟩ : ∃ n, n = l.length := ⟨_, rfl⟩
 obtain ⟨E, hE⟩ : ∃ E, E = endsL l.length := ⟨_, rfl⟩
 obtain ⟨P, hP⟩ : ∃ P : Nat → List (List Int), P = fun k => (lineOf l ((endsL l.length).getD k [])).1 := ⟨_, rfl⟩
 obtain ⟨sd, hsd⟩ : ∃ P : Nat → Int, P = fun k => (lineOf l ((endsL l.length).getD k [])).2.1 := ⟨_, rfl⟩
 obtain ⟨a, ha⟩ : ∃ a, a = acM l := ⟨_, rfl⟩
 obtain ⟨d, hd⟩ : ∃ d, d = dnM l := ⟨_, rfl⟩
 obtain ⟨TB, hTB⟩ : ∃ T, T = endT l := ⟨_, rfl⟩
 rw [← hE, ← hTB, ← ha, ← hd, ← hn] at hF2
 obtain ⟨CT, hCT⟩ : ∃ C, C = ccT l (TB E.length, 0) := ⟨_, rfl⟩
 obtain ⟨CR, hCR⟩ : ∃ C : Nat → Nat → List (List Int) × Nat, C = fun i j => ccR l (ccT l (TB E.length, 0) i) i j := ⟨_, rfl⟩
 obtain ⟨WA, hWA⟩ : ∃ C : Nat → Nat → List (List Int), C = fun i j => (wayAt l i j).1 := ⟨_, rfl⟩
 obtain ⟨SV, hSV⟩ : ∃ C : Nat → Nat → List Int, C = fun (i j : Nat) => sidesL a d i j := ⟨_, rfl⟩
 obtain ⟨SF, hSF⟩ : ∃ C, C = sideF l := ⟨_, rfl⟩
 rw [← hCR, ← hCT, ← hWA, ← hSV, ← hSF] at hF2
 rw [← hP, ← hsd, ← hE, ← hTB, ← ha, ← hd, ← hn] at hF
 rw [← hP, ← hWA, ← hSF, ← ha, ← hd, ← hn] at hF3
 rw [← ha, ← hd, ← hn] at HLO
 rw [← hn] at HSG ⊢
 have HF := Aside0.mk hF
 have HF2 := Aside0.mk hF2
 have HF3 := Aside0.mk hF3
 obtain ⟨hn1, hn6⟩ := hF.n1
 have HEL := Aside0.mk hF.EL
 obtain ⟨m2, hm2⟩ : ∃ m, m = 2 * n := ⟨_, rfl⟩
 have hm2w : IntKind.i64.wrap (2 * (n : Int)) = (m2 : Int) := by rw [IntWalk.i64_in _ ⟨by omega, by omega⟩]; omega
 have hm12 : m2 ≤ 12 := by omega
 have HM2 := Aside0.mk hm2
 have HTA := Aside0.mk (fun W => impl_tableC.calls 55 #[] (fun _ _ => 0) n n W (by omega) (by omega) eg1 (fun i j W' _ _ _ => closed_1.calls i j W'))
 rw [zeros_tab] at HTA
 have hu50 := Try.underlying50
 clear hr0 hc0 hF hF2 hF3 hP hsd ha hd hTB hE hn hs hCT hCR hWA hSV hSF hm2 hsg eg1
 go_enter Try.func27, Try.ntmps27
 go_wp2_with (first
  | (go_at_call 45; refine HSG.out.mono ?_; rintro e w1 ⟨rfl, hb⟩; have HB1 := Aside0.mk hb; clear hb)
  | (go_at_call 46; refine (HLO.out _ HB1.out).mono ?_; rintro e w7 ⟨va, vd, rfl, hSa, hSd, hb⟩; obtain ⟨Aa, ca, rfl⟩ := Kd.S_slice hSa; obtain ⟨Ad, cd, rfl⟩ := Kd.S_slice hSd; have HAa := Aside0.mk (Kd.S_reads' hSa).2.2; have HAc := Aside0.mk (Kd.S_reads' hSa).2.1; have HDa := Aside0.mk (Kd.S_reads' hSd).2.2; have HDc := Aside0.mk (Kd.S_reads' hSd).2.1; have HB7 := Aside0.mk (below_step HB1.out hb); clear hSa hSd hb)
  | ((with_reducible refine gate_dst (N := 4) rfl ?_); refine box_event ?hg (N := 4) ?hd (cs := #[.int .i64 0, .slice none 0 0, .slice none 0 0]) (t := 50) ?hr ?_; (case hd => rfl); (case hg => rfl); (case hr => first | (go_simp; done) | (go_simp; rfl)); intro gb hg w8 hbox hb; have BK := Aside0.mk hbox; have HB8 := Aside0.mk hb; have HGB := Aside0.mk (show w7.heap.size ≤ gb by rw [hg]; exact Nat.le_refl _); clear hbox hb hg; have hcz0 : w8.cell? ⟨gb, 0, none⟩ = some (.int .i64 0) := (blk_cell BK.out 0).trans rfl; have hcz1 : w8.cell? ⟨gb, 1, none⟩ = some (.slice none 0 0) := (blk_cell BK.out 1).trans rfl; have hcz2 : w8.cell? ⟨gb, 2, none⟩ = some (.slice none 0 0) := (blk_cell BK.out 2).trans rfl; have hfz0 := blk_frozen BK.out 0; have hfz1 := blk_frozen BK.out 1; have hfz2 := blk_frozen BK.out 2)
  | (go_at_call 54; obtain ⟨w9, hw9⟩ : ∃ w9, w9 = ((w8.setCell ⟨gb, 0, none⟩ (.int .i64 n)).setCell ⟨gb, 1, none⟩ (.slice Aa a.length ca)).setCell ⟨gb, 2, none⟩ (.slice Ad d.length cd) := ⟨_, rfl⟩; rw [← hw9]; have BK9 := Aside0.mk (show BoxL w9 gb n Aa a.length ca Ad d.length cd from by unfold BoxL; rw [hw9]; refine blk_put (cs := #[.int .i64 n, .slice Aa a.length ca, .slice none 0 0]) ?_ 2 _ rfl; refine blk_put (cs := #[.int .i64 n, .slice none 0 0, .slice none 0 0]) ?_ 1 _ rfl; exact blk_put (cs := #[.int .i64 0, .slice none 0 0, .slice none 0 0]) BK.out 0 _ rfl); have hb9 : Below w7.heap.size w7 w9 := (by rw [hw9]; exact ((HB8.out.setCell (p := ⟨gb, 0, none⟩) HGB.out _).setCell (p := ⟨gb, 1, none⟩) HGB.out _).setCell (p := ⟨gb, 2, none⟩) HGB.out _); have HA9 := Aside0.mk (Kd.C_below HAa.out hb9); have HD9 := Aside0.mk (Kd.C_below HDa.out hb9); have HB9 := Aside0.mk (below_step HB7.out hb9); clear hb9 hw9 HAa HDa HB7 BK hcz0 hcz1 hcz2 hfz0 hfz1 hfz2; refine (HTA.out _).mono ?_; rintro e w10 ⟨v, rfl, hS, hb⟩; obtain ⟨g, c, rfl, _⟩ := Kd.S_form hS (by simp [zerosT]; omega); rw [show (zerosT n).length = n by simp [zerosT]] at hS ⊢; obtain ⟨row, hsm⟩ := SM.of_S (Kd.S_mono (ok' := okM w9.heap.size w10.heap.size) (Kd.S_bound hS) (fun k hk => ⟨hk.2.1, hk.2.2.1⟩)) (by simp [zerosT]) (zeros_ok n).row; have HSM := Aside0.mk hsm; have HL10 := Aside0.mk hb; clear hS hb hsm))
 have HFR := Aside0.mk (fun (W' : World) (k : Nat) (hb : Below w9.heap.size w9 W') (hk : k < 2 * n) => show ∃ s, Calls Try.prog 47 #[.agg #[.int .i64 n, .slice Aa a.length ca, .slice Ad d.length cd], .int .i64 k] W' (RetWy W' (P k) s) from by obtain ⟨kk, s, h⟩ := HF3.out.FE k hk; exact ⟨s, impl_Loops_fromEnd.calls kk n Aa ca a Ad cd d k (P k) s W' (Kd.C_below HA9.out hb) HAc.out (Kd.C_below HD9.out hb) HDc.out h⟩)
 have HDR := Aside0.mk (fun (W' : World) (i j s : Nat) (hb : Below w9.heap.size w9 W') (hi : i < n) (hj : j < n) (hs : s ≤ SF i j) => impl_Loops_drawn.calls n Aa ca a Ad cd d i j s _ W' (Kd.C_below HA9.out hb) HAc.out (Kd.C_below HD9.out hb) HDc.out (HF3.out.DR i j s hi hj hs))
 have HFO := Aside0.mk (fun (W' : World) (i j : Nat) (hb : Below w9.heap.size w9 W') (hi : i < n) (hj : j < n) => show ∃ s, Calls Try.prog 58 #[.agg #[.int .i64 n, .slice Aa a.length ca, .slice Ad d.length cd], .int .i64 i, .int .i64 j, .int .i64 (SF i j : Nat)] W' (RetWy W' (WA i j) s) from by obtain ⟨s, h⟩ := HF3.out.FO i j hi hj; exact ⟨s, impl_Loops_follow.calls n Aa ca a Ad cd d i j (SF i j : Nat) (WA i j) s W' (Kd.C_below HA9.out hb) HAc.out (Kd.C_below HD9.out hb) HDc.out h⟩)
 have HMK := Aside0.mk (fun (p : List (List Int)) (hP : p.length ≤ 144 ∧ ∀ q ∈ p, InP n q) (T : List (List Int)) (A : Option Addr) (cp : Nat) (W : World) (hsm : SM W w9.heap.size (okM w9.heap.size w10.heap.size) g c n T row) (hF : Kd.F (Kd.slice 3 (Kd.int .i64)) W (fun k => w10.heap.size ≤ k) A p.length p) (hb6 : BoxM W w10.heap.size g n c) => closed_2.calls p A cp W hP hn6 hsm hF hb6 (Nat.le_refl _))
 obtain ⟨w11, hw11⟩ : ∃ w11, w11 = w10.alloc (.cells #[.slice (some ⟨g, 0, none⟩) n c] 22) := ⟨_, rfl⟩
 have HS0 := Aside0.mk (show SM w11 w9.heap.size (okM w9.heap.size w10.heap.size) g c n (TB 0) row by rw [HF.out.TB0, hw11]; exact HSM.out.below (below_alloc (Below.refl _ _) _))
 have HK0 := Aside0.mk (show BoxM w11 w10.heap.size g n c by rw [hw11]; exact blk_new _ _)
 have HZ0 := Aside0.mk (show w10.heap.size ≤ w11.heap.size by rw [hw11]; simp)
 have HL0 := Aside0.mk (show Below w9.heap.size w9 w11 by rw [hw11]; exact below_alloc HL10.out _)
 rw [← hw11]
 clear HSM HL10 hw11 HLO HTA HSG
 go_loopg [30] m2 (fun gg s30 wr => ∃ k : Nat, k ≤ m2 ∧ m2 - k ≤ gg ∧ s30 = .int .i64 k ∧ Aside0 (SM wr w9.heap.size (okM w9.heap.size w10.heap.size) g c n (TB k) row) ∧ Aside0 (BoxM wr w10.heap.size g n c) ∧ Aside0 (w10.heap.size ≤ wr.heap.size) ∧ Aside0 (Below w9.heap.size w9 wr))
 case atStart => exact ⟨0, by omega, by omega, by go_num, HS0, HK0, HZ0, HL0⟩
 case round =>
  clear HS0 HK0 HZ0 HL0
  obtain ⟨k, hk, hgk, rfl, HSM, HBK, HSZ, HL⟩ := hrel
  by_cases hlt : k < m2
  ·have hz : (k : Int) < (m2 : Int) := by omega
   have hkE : k < E.length := by rw [HEL.out, ← HM2.out]; exact hlt
   have hb0 : wr.cell? ⟨gb, 0, none⟩ = some (.int .i64 n) := (blk_cell (blk_below BK9.out HL.out) 0).trans rfl
   have hb1 : wr.cell? ⟨gb, 1, none⟩ = some (.slice Aa a.length ca) := (blk_cell (blk_below BK9.out HL.out) 1).trans rfl
   have hb2 : wr.cell? ⟨gb, 2, none⟩ = some (.slice Ad d.length cd) := (blk_cell (blk_below BK9.out HL.out) 2).trans rfl
   have HTS := Aside0.mk (HF.out.TS k hkE)
   have HPI := Aside0.mk (HF.out.PI k hkE)
   obtain ⟨s0, hfe⟩ := HFR.out wr k HL.out (by rw [← HM2.out]; exact hlt)
   obtain ⟨p, hp⟩ : ∃ p, p = P k := ⟨_, rfl⟩
   rw [← hp] at hfe HTS HPI
   clear hp hkE
   go_wp2_with (first
    | (go_at_call 47; refine hfe.mono ?_; rintro e w5 ⟨v, rfl, hS, hb⟩; obtain ⟨Aw, cw, rfl⟩ := Kd.S_slice hS; have HW5 := Aside0.mk (way_F (N := w10.heap.size) hS HSZ.out); have HB5 := Aside0.mk hb; clear hS hb)
    | (go_at_fn 56; refine (HMK.out p HPI.out (TB k) Aw cw w5 (HSM.out.below HB5.out) HW5.out (blk_below HBK.out HB5.out)).mono ?_; rintro e w6 ⟨rfl, hsm, hb, hbk, hsz⟩; have HS6 := Aside0.mk hsm; have HK6 := Aside0.mk hbk; have HZ6 := Aside0.mk (Nat.le_trans HSZ.out (Nat.le_trans HB5.out.size hsz)); have HL6 := Aside0.mk ((HL.out.trans (HB5.out.mono HL.out.size)).trans hb); clear hsm hb hbk hsz))
   go_roundg (m2 - (k + 1))
   case measure => omega
   case rel => exact ⟨k + 1, by omega, by omega, by go_num, ⟨by rw [HTS.out]; exact HS6.out⟩, HK6, HZ6, HL6⟩
  ·have hz : ¬ (k : Int) < (m2 : Int) := by omega
   have hSM0 := HSM.out
   rw [show k = E.length by have := HEL.out; have := HM2.out; omega] at hSM0
   have HSM0 := Aside0.mk (show SM wr w9.heap.size (okM w9.heap.size w10.heap.size) g c n (CT 0).1 row by rw [HF2.out.C0]; exact hSM0)
   have HC0 := Aside0.mk (show (CT 0).2 = 0 by rw [HF2.out.C0])
   clear hSM0 HSM
   go_wp2
   obtain ⟨wa, rfl⟩ : ∃ wa : World, wa = wr := ⟨_, rfl⟩
   go_loopg [11, 44] n (fun gg s11 s44 wr => ∃ i : Nat, i ≤ n ∧ n - i ≤ gg ∧ s44 = .int .i64 i ∧ s11 = .int .i64 ((CT i).2 : Nat) ∧ Aside0 (SM wr w9.heap.size (okM w9.heap.size w10.heap.size) g c n (CT i).1 row) ∧ Aside0 (BoxM wr w10.heap.size g n c) ∧ Aside0 (w10.heap.size ≤ wr.heap.size) ∧ Aside0 (Below w9.heap.size w9 wr))
   case atStart => exact ⟨0, by omega, by omega, by go_num, by rw [HC0.out]; go_num, HSM0, HBK, HSZ, HL⟩
   case round =>
    clear HSM0 HBK HSZ HL HC0
    obtain ⟨i, hi, hgi, rfl, rfl, HSM, HBK, HSZ, HL⟩ := hrel
    by_cases hin : i < n
    ·have hzi : (i : Int) < (n : Int) := by omega
     have HSM0 := Aside0.mk (show SM wr w9.heap.size (okM w9.heap.size w10.heap.size) g c n (CR i 0).1 row by rw [HF2.out.R0]; exact HSM.out)
     have HC0 := Aside0.mk (show (CR i 0).2 = (CT i).2 by rw [HF2.out.R0])
     clear HSM
     go_wp2
     obtain ⟨wb, rfl⟩ : ∃ wb : World, wb = wr := ⟨_, rfl⟩
     go_loopg [11, 48] n (fun gg s11 s48 wr => ∃ j : Nat, j ≤ n ∧ n - j ≤ gg ∧ s48 = .int .i64 j ∧ s11 = .int .i64 ((CR i j).2 : Nat) ∧ Aside0 (SM wr w9.heap.size (okM w9.heap.size w10.heap.size) g c n (CR i j).1 row) ∧ Aside0 (BoxM wr w10.heap.size g n c) ∧ Aside0 (w10.heap.size ≤ wr.heap.size) ∧ Aside0 (Below w9.heap.size w9 wr))
     case atStart => exact ⟨0, by omega, by omega, by go_num, by rw [HC0.out], HSM0, HBK, HSZ, HL⟩
     case round =>
      clear HSM0 HBK HSZ HL HC0
      obtain ⟨j, hj, hgj, rfl, rfl, HSM, HBK, HSZ, HL⟩ := hrel
      by_cases hjn : j < n
      ·have hzj : (j : Int) < (n : Int) := by omega
       obtain ⟨gi, ci, hrow, _, _, _, _, hcij, _, _⟩ := HSM.out.put i j hin hjn
       have hrc := HSM.out.rw i hin
       rw [hrow] at hrc
       have hbk : wr.cell? ⟨w10.heap.size, 0, none⟩ = some (.slice (some ⟨g, 0, none⟩) n c) := blk_cell HBK.out 0
       have hbit := (HF2.out.OK i j hin hj).1.bit i j hin hjn
       have hcnt := (HF2.out.OK i j hin hj).2
       have HR1 := Aside0.mk (HF2.out.R1 i j hin hjn)
       have HR2 := Aside0.mk (HF2.out.R2 i j hin hjn)
       obtain ⟨x, hx⟩ : ∃ x, x = rd ((CR i j).1.getD i []) j := ⟨_, rfl⟩
       rw [← hx] at hbit hcij
       have HX := Aside0.mk hx
       clear hx hrow
       by_cases hx1 : x = 1
       ·have HRE := Aside0.mk (HR1.out (by rw [← HX.out]; exact hx1))
        subst hx1
        clear hbit
        go_wp2
        go_roundg (n - (j + 1))
        case measure => omega
        case rel => exact ⟨j + 1, by omega, by omega, by go_num, by rw [HRE.out], ⟨by rw [HRE.out]; exact HSM.out⟩, HBK, HSZ, HL⟩
       ·have hx0 : x = 0 := hbit.resolve_right hx1
        have HRE := Aside0.mk (HR2.out (by rw [← HX.out]; exact hx0))
        subst hx0
        obtain ⟨cn, hcn⟩ : ∃ cn, cn = (CR i j).2 := ⟨_, rfl⟩
        rw [← hcn] at hcnt ⊢
        have HCN := Aside0.mk hcn
        have hsf3 := (HF2.out.SI i j hin hjn).1
        have HFI := Aside0.mk (fun W' hb => HFO.out W' i j hb hin hjn)
        have HDI := Aside0.mk (fun W' s hb hs => HDR.out W' i j s hb hin hjn hs)
        obtain ⟨sf, hsf⟩ : ∃ s, s = SF i j := ⟨_, rfl⟩
        rw [← hsf] at hsf3 HFI HDI
        clear hbit hx1 hcn hsf
        go_wp2
        clear hcij hrc hbk
        obtain ⟨wc, rfl⟩ : ∃ wc : World, wc = wr := ⟨_, rfl⟩
        go_loopg [14] sf (fun gg s14 wr => ∃ s : Nat, s ≤ sf ∧ sf - s ≤ gg ∧ s14 = .int .i64 s ∧ Aside0 (SM wr w9.heap.size (okM w9.heap.size w10.heap.size) g c n (CR i j).1 row) ∧ Aside0 (BoxM wr w10.heap.size g n c) ∧ Aside0 (w10.heap.size ≤ wr.heap.size) ∧ Aside0 (Below w9.heap.size w9 wr))
        case atStart => exact ⟨0, by omega, by omega, by go_num, HSM, HBK, HSZ, HL⟩
        case round =>
         clear HSM HBK HSZ HL
         obtain ⟨s, hsle, hgs, rfl, HSM, HBK, HSZ, HL⟩ := hrel
         have hb0 : wr.cell? ⟨gb, 0, none⟩ = some (.int .i64 n) := (blk_cell (blk_below BK9.out HL.out) 0).trans rfl
         have hb1 : wr.cell? ⟨gb, 1, none⟩ = some (.slice Aa a.length ca) := (blk_cell (blk_below BK9.out HL.out) 1).trans rfl
         have hb2 : wr.cell? ⟨gb, 2, none⟩ = some (.slice Ad d.length cd) := (blk_cell (blk_below BK9.out HL.out) 2).trans rfl
         have hdr := HDI.out wr s HL.out hsle
         by_cases hlt2 : s < sf
         ·rw [decide_eq_false (show ¬ s = sf by omega)] at hdr
          go_wp2_with (go_at_call 57; refine hdr.mono ?_; rintro e w5 ⟨rfl, hb⟩; have HB5 := Aside0.mk hb; clear hb)
          go_roundg (sf - (s + 1))
          case measure => omega
          case rel => exact ⟨s + 1, by omega, by omega, by go_num, ⟨HSM.out.below HB5.out⟩, ⟨blk_below HBK.out HB5.out⟩, ⟨Nat.le_trans HSZ.out HB5.out.size⟩, ⟨HL.out.trans (HB5.out.mono HL.out.size)⟩⟩
         ·obtain rfl : s = sf := by omega
          rw [decide_eq_true rfl] at hdr
          have HPI := Aside0.mk (HF2.out.WI i j hin hjn)
          obtain ⟨p, hp⟩ : ∃ p, p = WA i j := ⟨_, rfl⟩
          have HP := Aside0.mk hp
          rw [← hp] at HPI HFI
          clear hp
          go_wp2_with (first
           | (go_at_call 57; refine hdr.mono ?_; rintro e w5 ⟨rfl, hb⟩; have HB5 := Aside0.mk hb; have hb0 := pw_cell_below hb hb0; have hb1 := pw_cell_below hb hb1; have hb2 := pw_cell_below hb hb2; clear hb)
           | (go_at_call 58; obtain ⟨s0, hfo⟩ := HFI.out w5 (HL.out.trans (HB5.out.mono HL.out.size)); refine hfo.mono ?_; clear hfo; rintro e w6 ⟨v, rfl, hS, hb⟩; obtain ⟨Aw, cw, rfl⟩ := Kd.S_slice hS; have HW6 := Aside0.mk (way_F (N := w10.heap.size) hS (Nat.le_trans HSZ.out HB5.out.size)); have HB6 := Aside0.mk (HB5.out.trans (hb.mono HB5.out.size)); clear hS hb)
           | (go_at_fn 56; refine (HMK.out p HPI.out (CR i j).1 Aw cw w6 (HSM.out.below HB6.out) HW6.out (blk_below HBK.out HB6.out)).mono ?_; rintro e w7' ⟨rfl, hsm, hb, hbk, hsz⟩; have HS7 := Aside0.mk hsm; have HK7 := Aside0.mk hbk; have HZ7 := Aside0.mk (Nat.le_trans HSZ.out (Nat.le_trans HB6.out.size hsz)); have HL7 := Aside0.mk ((HL.out.trans (HB6.out.mono HL.out.size)).trans hb); clear hsm hb hbk hsz))
          go_roundg (n - (j + 1))
          case measure => omega
          case rel => exact ⟨j + 1, by omega, by omega, by go_num, by rw [HRE.out, ← HCN.out]; go_num, ⟨by rw [HRE.out, ← HP.out]; exact HS7.out⟩, HK7, HZ7, HL7⟩
      ·have hzj : ¬ (j : Int) < (n : Int) := by omega
       have hcs := HF2.out.CS i
       rw [show CR i n = CR i j by rw [show j = n by omega]] at hcs
       have HCS := Aside0.mk hcs
       clear hcs
       go_wp2
       go_roundg (n - (i + 1))
       case measure => omega
       case rel => exact ⟨i + 1, by omega, by omega, by go_num, by rw [HCS.out], ⟨by rw [HCS.out]; exact HSM.out⟩, HBK, HSZ, HL⟩
    ·have hzi : ¬ (i : Int) < (n : Int) := by omega
     have HFN := Aside0.mk (show (CT i).2 = closedN l by rw [show i = n by omega]; exact HF2.out.FIN)
     go_wp2
     go_ret2
     exact ⟨by rw [HFN.out]; rfl, HB9.out.trans (HL.out.mono HB9.out.size)⟩
end Go.Proofs.Ythbkjaieenochaa.L

namespace Go.Proofs.Ythbkjaieenochaa.Law
open Go.RowKit Go.Proofs.Ythbkjaieenochaa Go.Proofs.Ythbkjaieenochaa.P Go.Proofs.Ythbkjaieenochaa.L Go.Proofs.YthbkjaieenochaaW.PrintWords Go.Proofs.YthbkjaieenochaaW.PrintLast Go.Proofs.YthbkjaieenochaaW.PrintMore

theorem spec_CountClosed_no (A0 : Option Addr) (c0 : Nat) (l : List (List Int)) (w : World) (hs : isSign l = false) (hf : fewRows l) (hr0 : Kd.C (Kd.slice 3 (Kd.int .i64)) w A0 l.length l) (hc0 : l.length ≤ c0) :
  Calls Try.prog 26 #[.slice A0 l.length c0] w fun e w' => e = .returned (.tuple #[.int .i64 0, .bool false]) ∧ Below w.heap.size w w' := by
 obtain ⟨kg, hkg⟩ := (sgGood_ev l hf).rounds
 rw [hs] at hkg
 have hg := spec_sgGood.calls kg A0 c0 l false w hr0 hc0 hkg
 clear hr0 hc0 hkg hs hf
 go_enter Try.func26, Try.ntmps26
 go_wp2_with (go_at_call 41; refine hg.mono ?_; rintro e w1 ⟨rfl, hb⟩; have HB1 := Aside0.mk hb; clear hb)
 go_ret2
 exact ⟨rfl, HB1.out⟩
theorem impl_CountClosed_no (A0 : Option Addr) (c0 : Nat) (l : List (List Int)) (w : World) (hs : isSign l = false) (hr0 : Kd.C (Kd.slice 3 (Kd.int .i64)) w A0 l.length l) (hc0 : l.length ≤ c0) :
  Calls Try.prog 27 #[.slice A0 l.length c0] w fun e w' => e = .returned (.tuple #[.int .i64 0, .bool false]) ∧ Below w.heap.size w w' := by
 have hg := impl_IsSignMatrix.calls' A0 c0 l w hr0 hc0
 rw [hs] at hg
 clear hr0 hc0 hs
 go_enter Try.func27, Try.ntmps27
 go_wp2_with (go_at_call 45; refine hg.mono ?_; rintro e w1 ⟨rfl, hb⟩; have HB1 := Aside0.mk hb; clear hb)
 go_ret2
 exact ⟨rfl, HB1.out⟩
theorem FnExactCountClosed (A : Option Addr) (cap : Nat) (l : List (List Int)) {W0 : World} (h : RowsIn W0 A l.length cap l) (W : World) (hW : W = W0) :
  Calls Try.prog 7 #[.slice A l.length cap] W fun e w' => e = .returned (.bool true) ∧ Below W.heap.size W w' := by
 subst hW
 refine lawCountClosed A cap l W h fun hf => ?_
 cases hs : isSign l with
 | false => exact ⟨0, false, fun W' A' c' q1 q2 => spec_CountClosed_no A' c' l W' hs hf q1 q2, fun W' A' c' q1 q2 => impl_CountClosed_no A' c' l W' hs q1 q2⟩
 | true => exact ⟨(closedN l : Nat), true, fun W' A' c' q1 q2 => spec_CountClosed.callsT A' c' l W' hs hf q1 q2, fun W' A' c' q1 q2 => impl_CountClosed.callsT A' c' l W' hs q1 q2⟩
end Go.Proofs.Ythbkjaieenochaa.Law
