/- The program's FlippedCells. -/
import Derived.Test.YtflhhbpgkjpbdaaHD
import Derived.Test.YtflhhbpgkjpbdaaLB
import Derived.Test.YtflhhbpgkjpbdaaPx65
import Derived.Test.YtflhhbpgkjpbdaaPx60
namespace Go.Proofs.Ytflhhbpgkjpbdaa
open Go.RowKit Go.Proofs.Ytflhhbpgkjpbdaa.P Go.Proofs.Ytflhhbpgkjpbdaa.L Go.Proofs.YtflhhbpgkjpbdaaW.PrintWords Go.Proofs.YtflhhbpgkjpbdaaW.PrintLast Go.Proofs.YtflhhbpgkjpbdaaW.PrintMore
set_option linter.unusedVariables false
set_option linter.unusedSimpArgs false

/-- The cells that can be flipped. -/
def flipC (l : List (List Int)) (colour : Int) : List (List Int) := (rowsOf (cellsOf l.length (colP colour))).filter fun c => !decide (wayF (hF l) (rd c 0).toNat (rd c 1).toNat = 0)
set_option maxHeartbeats 2000000 in
theorem flipped_1.calls (n : Nat) (h : Nat → Nat → Int) (H : HOK n h) (hn : n ≤ 6) (i j : Nat) (hi1 : 1 ≤ i) (hi : i < n) (hj1 : 1 ≤ j) (hj : j < n) (b c ch : Nat) (A Ah : Option Addr) (W : World)
    (hb : W.cell? ⟨b, 0, none⟩ = some (.slice Ah (n + 1) ch)) (hc : n + 1 ≤ ch) (hC : Kd.C (Kd.slice 3 (Kd.int .i64)) W Ah (n + 1) (tableL h (n + 1) (n + 1))) (hx : Kd.C (Kd.int .i64) W A 2 [(i : Int), (j : Int)]) :
    Gives Try.prog 64 #[.slice A 2 c, .pointer (some ⟨b, 0, none⟩)] W (.bool (decide (wayF h i j = 0))) := by
  have hway := fun W' hb' => impl_way.calls Ah ch (tableL h (n + 1) (n + 1)) i j (wayF h i j) W' (by rw [tableL_length]; exact Kd.C_below hC hb') (by rw [tableL_length]; exact hc) (implWay_eq H hn hi1 hi hj1 hj)
  rw [tableL_length] at hway
  have HW := Aside0.mk hway
  obtain ⟨ad, e0, hy0⟩ := Kd.at_int hx (0 : Nat) (by omega) (by omega)
  cases e0
  obtain ⟨ad', e0, hy1⟩ := Kd.at_int hx ((0 + 1 : Nat) : Int) (by omega) (by omega)
  cases e0
  simp only [Int.toNat_natCast] at hy0 hy1
  replace hy0 : W.cell? ad = some (.int .i64 i) := by rw [addr_zero] at hy0; exact hy0
  replace hy1 : W.cell? { ad with off := ad.off + (0 + 1), spot := none } = some (.int .i64 j) := by rw [Addr.add_succ'] at hy1; exact hy1
  clear hC hx hway
  unfold Gives
  go_enter Try.func64, Try.ntmps64
  go_wp2
  go_region_held3 (fun W1 => W1.cell? ⟨b, 0, none⟩ = some (.slice Ah (n + 1) ch) ∧ W1.cell? ad = some (.int .i64 i) ∧ W1.cell? { ad with off := ad.off + (0 + 1), spot := none } = some (.int .i64 j) ∧ Below W.heap.size W W1) (first | (refine ⟨by simp [*], by simp [*], by simp [*], ?_⟩; repeat (first | assumption | exact Below.refl _ _ | apply below_drew | apply pw_below_drewN)) | (have hh_ := ‹_ ∧ _ ∧ _ ∧ Below W.heap.size W _›; exact ⟨pw_cell_below hb4 hh_.1, pw_cell_below hb4 hh_.2.1, pw_cell_below hb4 hh_.2.2.1, below_step hh_.2.2.2 hb4⟩)) (first | (go_at_call 65; (with_reducible refine (HW.out _ (by repeat (first | assumption | exact Below.refl _ _ | apply below_drew | apply pw_below_drewN))).mono ?_); rintro e w2 ⟨rfl, hb4⟩))
  all_goals
    go_wp2
    go_ret
    exact ⟨by first | rfl | (congr 1; done) | simp [Int.beq_eq_decide], by first | assumption | (have hh_ := ‹_ ∧ _ ∧ _ ∧ Below W.heap.size W _›; exact hh_.2.2.2)⟩

theorem HOK_of {l : List (List Int)} (hs : isSign l = true) : HOK l.length (hF l) := sign_HOK hs
set_option maxHeartbeats 1000000 in
theorem coloured_delete (l0 : List (List Int)) (hs : isSign l0 = true) (colour : Int) (b ch n : Nat) (hn : n = l0.length) (Ah : Option Addr) (W : World) (hb : W.cell? ⟨b, 0, none⟩ = some (.slice Ah (n + 1) ch)) (hch : n + 1 ≤ ch)
    (hC : Kd.C (Kd.slice 3 (Kd.int .i64)) W Ah (n + 1) (heightsM l0)) :
    Calls Try.prog 63 #[.int .i64 n, .int .i64 colour] W fun e w4 => ∃ A m c, e = .returned (.slice A m c) ∧ Below W.heap.size W w4 ∧
      Calls Try.prog 62 #[.slice A m c, .func (.func 64) #[] #[.pointer (some ⟨b, 0, none⟩)]] w4 (RetD w4 W.heap.size (fun _ => True) (flipC l0 colour)) := by
  subst hn
  have h6 := isSign_facts hs
  obtain ⟨h1, h2, _, _⟩ := h6
  have eg : ∀ args w, (callFunc 64 args).run Try.prog w = .ok (.enter 64 args) w := enters_of Try.func64 (by kernel_rfl) rfl
  refine (impl_coloured.callsG l0.length colour W h1 (by omega)).mono ?_
  rintro e w4 ⟨v, rfl, hS, hb4⟩
  obtain ⟨A, c, rfl⟩ := Kd.R_slice (Kd.S_R hS)
  refine ⟨A, _, c, rfl, hb4, ?_⟩
  refine slices_DeleteFunc_rows.calls _ _ (fun x => decide (wayF (hF l0) (rd x 0).toNat (rd x 1).toNat = 0)) W.heap.size (fun _ => True) A c _ w4 hb4.size (by have := cellsOf_length l0.length (colP colour) h2; rw [rowsOf_length]; exact this) eg ?_ hS
  intro x Ax cx W' hx hbW hCx hcx
  obtain ⟨d, hd, rfl⟩ := List.mem_map.1 hx
  obtain ⟨i, j⟩ := d
  have hin := cellsOf_in l0.length (colP colour) (i, j) hd
  have hbW' : Below W.heap.size W W' := hb4.trans (hbW)
  exact flipped_1.calls l0.length (hF l0) (HOK_of hs) h2 i j hin.1 hin.2.1 hin.2.2.1 hin.2.2.2 b cx ch Ax Ah W' (pw_cell_below hbW' hb) hch (Kd.C_below hC hbW') hCx
set_option maxHeartbeats 2000000 in
theorem impl_FlippedCells.callsG (A0 : Option Addr) (c0 : Nat) (l0 : List (List Int)) (x : Int) (w : World) (hr0 : Kd.C (Kd.slice 3 (Kd.int .i64)) w A0 l0.length l0) (hc0 : l0.length ≤ c0) :
    Calls Try.prog 19 #[.slice A0 l0.length c0, .int .i64 x] w (RetT w (if (isSign l0 && inB x 0 1) = true then flipC l0 x else []) (isSign l0 && inB x 0 1)) := by
  have hsg := impl_IsSignMatrix.calls' A0 c0 l0 w hr0 hc0
  cases hs : isSign l0 with
  | false =>
    rw [hs] at hsg
    rw [Bool.false_and, if_neg (by simp)]
    clear hs hr0 hc0
    go_enter Try.func19, Try.ntmps19
    go_wp2_with (go_at_call 59; refine hsg.mono ?_; rintro e w1 ⟨rfl, hb⟩)
    go_ret2
    exact ⟨_, rfl, Kd.S_nil _ _ _ _ _, hb⟩
  | true =>
    rw [hs] at hsg
    rw [Bool.true_and]
    have hrg := fun W => impl_isColour.calls x (inB x 0 1) W rfl
    cases hx : inB x 0 1 with
    | false =>
      rw [hx] at hrg
      rw [if_neg (by simp)]
      clear hs hr0 hc0 hx
      go_enter Try.func19, Try.ntmps19
      go_wp2_with (first | (go_at_call 59; refine hsg.mono ?_; rintro e w1 ⟨rfl, hb⟩; have HB := Aside0.mk hb; clear hb) | (go_at_call 60; refine (hrg _).mono ?_; rintro e w2 ⟨rfl, hd⟩; have HB2 := Aside0.mk (below_step HB.out hd.below); clear hd))
      go_ret2
      exact ⟨_, rfl, Kd.S_nil _ _ _ _ _, HB2.out⟩
    | true =>
      rw [hx] at hrg
      rw [if_pos rfl]
      have HHE := Aside0.mk (fun (W : World) (hb : Below w.heap.size w W) => impl_heights.calls A0 c0 l0 (heightsM l0) W (Kd.C_below hr0 hb) hc0 (by unfold impl_heights.f; rw [if_pos hs]))
      have HCD := Aside0.mk (coloured_delete l0 hs x)
      have HHL := Aside0.mk (show (heightsM l0).length = l0.length + 1 by rw [heightsM, tableL_length])
      have HB0 := Aside0.mk (Below.refl w.heap.size w)
      obtain ⟨n, hn⟩ : ∃ n, n = l0.length := ⟨_, rfl⟩
      rw [← hn] at hsg HHE HHL
      rw [← hn]
      have HNN := Aside0.mk hn
      clear hs hr0 hc0 hx hn
      go_enter Try.func19, Try.ntmps19
      go_wp2_with (first | (go_at_call 59; refine hsg.mono ?_; rintro e w1 ⟨rfl, hb⟩; have HB := Aside0.mk hb; clear hb) | (go_at_call 60; refine (hrg _).mono ?_; rintro e w2 ⟨rfl, hd⟩; have HB2 := Aside0.mk (below_step HB.out hd.below); clear hd) | (go_at_call 61; refine (HHE.out _ HB2.out).mono ?_; rintro e w3 ⟨v, rfl, hS, hb⟩; obtain ⟨Ah, ch, rfl⟩ := Kd.R_slice (Kd.S_R hS); have HC3 := Aside0.mk (Kd.R_reads' (Kd.S_R hS)).2.2; have HL3 := Aside0.mk (Kd.R_reads' (Kd.S_R hS)).2.1; rw [HHL.out] at HC3 HL3; rw [HHL.out]; have HB3 := Aside0.mk (below_step HB2.out hb); clear hS hb) | (go_at_call 63; refine (HCD.out w3.heap.size ch n HNN.out Ah _ (blk_cell (blk_new w3 (.cells #[.slice Ah (n + 1) ch] 22)) 0) HL3.out (Kd.C_below HC3.out (below_alloc (Below.refl _ _) (.cells #[.slice Ah (n + 1) ch] 22)))).mono ?_; rintro e w4 ⟨A4, m4, c4, rfl, hb, hdel⟩; have HB4 := Aside0.mk (below_step (below_alloc HB3.out (.cells #[.slice Ah (n + 1) ch] 22)) hb); have HSZ := Aside0.mk (below_alloc HB3.out (.cells #[.slice Ah (n + 1) ch] 22)).size; have HDEL := Aside0.mk hdel; clear hb hdel) | (go_at_call 62; refine (HDEL.out).mono ?_; rintro e w5 ⟨v5, rfl, hS5, hb5⟩))
      go_ret2
      exact ⟨_, rfl, Kd.S_lower hS5 HSZ.out, HB4.out.trans (hb5.mono HSZ.out)⟩
end Go.Proofs.Ytflhhbpgkjpbdaa
