/- Walk: the reference's RowWave. -/
import Derived.Test.YtflhhbpgkjpbdaaLB
namespace Go.Proofs.Ytflhhbpgkjpbdaa
open Go.RowKit Go.Proofs.Ytflhhbpgkjpbdaa.P Go.Proofs.Ytflhhbpgkjpbdaa.L Go.Proofs.YtflhhbpgkjpbdaaW.PrintWords Go.Proofs.YtflhhbpgkjpbdaaW.PrintLast Go.Proofs.YtflhhbpgkjpbdaaW.PrintMore
set_option linter.unusedVariables false
set_option linter.unusedSimpArgs false

theorem heFrom_calls {n : Nat} {h : Nat → Nat → Int} (H : HOK n h) (hn : n ≤ 6) : ∃ k, spec_heFrom.f k (tableL h (n + 1) (n + 1)) = some (fromT h n) := (heFrom_ev H hn).rounds
set_option maxHeartbeats 4000000 in
theorem spec_RowWave.callsG (A0 : Option Addr) (c0 : Nat) (l0 : List (List Int)) (w : World) (hf : fewRows l0) (hr0 : Kd.C (Kd.slice 3 (Kd.int .i64)) w A0 l0.length l0) (hc0 : l0.length ≤ c0) :
    Calls Try.prog 25 #[.slice A0 l0.length c0] w (RetT w (changedT waveT l0) (isSign l0)) := by
  have hsg := sgGood_calls l0 hf A0 c0 w hr0 hc0
  have HD := Aside0.mk (show changedT waveT l0 = if isSign l0 = true then waveT l0 else [] from rfl)
  cases hs : isSign l0 with
  | false =>
    rw [hs] at hsg
    have HE := Aside0.mk (show changedT waveT l0 = [] by rw [HD.out, hs]; rfl)
    clear HD hs hr0 hc0
    go_enter Try.func25, Try.ntmps25
    go_wp2_with (go_at_call 54; refine hsg.mono ?_; rintro e w1 ⟨rfl, hb⟩)
    go_ret2
    exact ⟨_, rfl, by rw [HE.out]; exact Kd.S_nil _ _ _ _ _, hb⟩
  | true =>
    rw [hs] at hsg
    have HE := Aside0.mk (show changedT waveT l0 = waveT l0 by rw [HD.out, hs]; rfl)
    obtain ⟨h1, h2, _, _⟩ := isSign_facts hs
    have H := sign_HOK hs
    have HH := Aside0.mk H
    obtain ⟨k, hk⟩ := (heOf_ev l0 (sign_small hs)).rounds
    have hhe := Aside0.mk (fun (W : World) (hb : Below w.heap.size w W) => spec_heOf.calls k A0 c0 l0 _ W (Kd.C_below hr0 hb) hc0 hk)
    have H2 := H.togs (cellsOf l0.length fun _ _ => true) (cellsOf_in _ _)
    obtain ⟨k2, hk2⟩ := (heFrom_ev H2 h2).rounds
    have HFR := Aside0.mk (fun (g c : Nat) (w0 W : World) (h : KS W w0.heap.size l0.length g c (togs (hF l0) (cellsOf l0.length fun _ _ => true))) => by
      have h' := Kd.S_reads' h
      have := spec_heFrom.calls k2 (some ⟨g, 0, none⟩) c (tableL (togs (hF l0) (cellsOf l0.length fun _ _ => true)) (l0.length + 1) (l0.length + 1)) _ W h'.2.2 (by rw [← h'.1]; exact h'.2.1) hk2
      rw [tableL_length] at this
      exact this)
    have HLN := Aside0.mk (show 0 < (heightsM l0).length by rw [heightsM, tableL_length]; omega)
    have HHL := Aside0.mk (show (heightsM l0).length = l0.length + 1 by rw [heightsM, tableL_length])
    obtain ⟨n, hn⟩ : ∃ n, n = l0.length := ⟨_, rfl⟩
    have HWV := Aside0.mk (show waveT l0 = fromT (togs (hF l0) (cellsOf n fun _ _ => true)) n by rw [hn]; rfl)
    obtain ⟨h0, hh0⟩ : ∃ h, h = hF l0 := ⟨_, rfl⟩
    rw [← hn] at hsg HFR HHL HH h1 h2
    rw [← hh0] at HFR HH HWV
    have HM := Aside0.mk (show heightsM l0 = tableL h0 (n + 1) (n + 1) by rw [heightsM, hn, hh0])
    have HNN := Aside0.mk hn
    have hhe2 : Aside0 (∀ (W : World), Below w.heap.size w W → Calls Try.prog 56 #[.slice A0 n c0] W (RetS W (heightsM l0))) := ⟨fun W hb => by rw [hn]; exact hhe.out W hb⟩
    clear HD hs hr0 hc0 hk hk2 H H2 hh0 hhe
    rw [← hn]
    clear hn
    go_enter Try.func25, Try.ntmps25
    go_wp2_with (first | (go_at_call 54; refine hsg.mono ?_; rintro e w1 ⟨rfl, hb⟩; have HB := Aside0.mk hb; clear hb) | (go_at_call 56; refine (hhe2.out _ HB.out).mono ?_; rintro e w2 ⟨v, rfl, hS, hb⟩; obtain ⟨g, c, rfl, _⟩ := Kd.S_form hS HLN.out; rw [HHL.out] at hS ⊢; rw [HM.out] at hS; have HS := Aside0.mk (show KS w2 w.heap.size n g c h0 from Kd.S_lower hS HB.out.size); have HB1 := Aside0.mk (below_step HB.out hb); clear hS hb))
    go_loopg [4, 5, 6] n (fun gg s4 s5 s6 wr => ∃ i : Nat, 1 ≤ i ∧ i ≤ n ∧ n - i ≤ gg ∧ s4 = .slice (some ⟨g, 0, none⟩) (n + 1) c ∧ s5 = .int .i64 i ∧ Aside0 (KS wr w.heap.size n g c (togs h0 (allC (fun _ _ => true) (n - 1) (i - 1)))) ∧ Aside0 (Below w.heap.size w wr))
    case atStart => exact ⟨1, Nat.le_refl _, h1, by omega, rfl, rfl, HS, HB1⟩
    case round =>
      clear HS HB HB1
      obtain ⟨i, hi1, hi, hg, rfl, rfl, HS, HB⟩ := hrel
      by_cases hlt : i < n
      · have hz : (i : Int) < (n : Int) := by omega
        obtain ⟨k, hk⟩ : ∃ k, i = k + 1 := ⟨i - 1, by omega⟩
        have hnx : allC (fun _ _ => true) (n - 1) i = allC (fun _ _ => true) (n - 1) (i - 1) ++ rowC (fun _ _ => true) i (n - 1) := by rw [hk]; rfl
        obtain ⟨pre, hpre⟩ : ∃ q, q = togs h0 (allC (fun _ _ => true) (n - 1) (i - 1)) := ⟨_, rfl⟩
        have HP := Aside0.mk (show HOK n pre by rw [hpre]; exact HH.out.togs _ (fun c hc => by have := allC_in _ _ _ c hc; unfold inCells; omega))
        have HNX := Aside0.mk (show togs h0 (allC (fun _ _ => true) (n - 1) (i + 1 - 1)) = togs pre (rowC (fun _ _ => true) i (n - 1)) by rw [Nat.add_sub_cancel, hnx, togs_append, hpre])
        rw [← hpre] at HS
        clear hpre hnx hk
        go_wp2
        go_loopg [4, 6] n (fun gj s4 s6 wr2 => ∃ j : Nat, 1 ≤ j ∧ j ≤ n ∧ n - j ≤ gj ∧ s4 = .slice (some ⟨g, 0, none⟩) (n + 1) c ∧ s6 = .int .i64 j ∧ Aside0 (KS wr2 w.heap.size n g c (togs pre (rowC (fun _ _ => true) i (j - 1)))) ∧ Aside0 (Below w.heap.size w wr2))
        case atStart => exact ⟨1, Nat.le_refl _, h1, by omega, rfl, rfl, HS, HB⟩
        case round =>
          clear HS HB
          obtain ⟨j, hj1, hj, hgj, rfl, rfl, HS, HB⟩ := hrel
          by_cases hjt : j < n
          · have hjz : (j : Int) < (n : Int) := by omega
            have hst : rowC (fun _ _ => true) i j = rowC (fun _ _ => true) i (j - 1) ++ [(i, j)] := by
              obtain ⟨m, hm⟩ : ∃ m, j = m + 1 := ⟨j - 1, by omega⟩
              rw [hm, Nat.add_sub_cancel, rowC, if_pos rfl]
            obtain ⟨acc, hacc⟩ : ∃ q, q = togs pre (rowC (fun _ _ => true) i (j - 1)) := ⟨_, rfl⟩
            have HA := Aside0.mk (show HOK n acc by rw [hacc]; exact HP.out.togs _ (fun c hc => by have := rowC_in _ _ _ c hc; unfold inCells; omega))
            rw [← hacc] at HS
            have HST := Aside0.mk (show togs pre (rowC (fun _ _ => true) i (j + 1 - 1)) = togF acc i j by rw [Nat.add_sub_cancel, hst, togs_snoc, hacc])
            have HC := Aside0.mk (spec_gyToggle.callsG HA.out h2 i j hi1 hlt hj1 hjt g c w _ HB.out HS.out)
            clear hst hacc
            go_wp2_with (go_at_call 67; refine HC.out.mono ?_; rintro e w1 ⟨rfl, hs, hb⟩; have HS1 := Aside0.mk hs; have HB1 := Aside0.mk hb; clear hs hb)
            go_roundg (n - (j + 1))
            case measure => omega
            case rel => exact ⟨j + 1, by omega, by omega, by omega, rfl, by go_num, ⟨by rw [HST.out]; exact HS1.out⟩, HB1⟩
          · have hjz : ¬ (j : Int) < (n : Int) := by omega
            have hjn : j = n := by omega
            subst hjn
            go_wp2
            go_roundg (j - (i + 1))
            case measure => omega
            case rel => exact ⟨i + 1, by omega, by omega, by omega, rfl, by go_num, ⟨by rw [HNX.out]; exact HS.out⟩, HB⟩
      · have hz : ¬ (i : Int) < (n : Int) := by omega
        have hin : i = n := by omega
        subst hin
        have HQ := Aside0.mk (HFR.out g c w _ HS.out)
        go_wp2_with (go_at_call 68; refine HQ.out.mono ?_; rintro e w3 ⟨v, rfl, hS, hb⟩; have HS3 := Aside0.mk (Kd.S_lower hS HB.out.size); have HB3 := Aside0.mk (below_step HB.out hb); clear hS hb)
        go_ret2
        exact ⟨_, rfl, by rw [HE.out, HWV.out]; exact HS3.out, HB3.out⟩
end Go.Proofs.Ytflhhbpgkjpbdaa
