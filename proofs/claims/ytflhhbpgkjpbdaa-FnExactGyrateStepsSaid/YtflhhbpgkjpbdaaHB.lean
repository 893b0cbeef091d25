/- Walks: FlipColour, GyrateSteps of both sides. -/
import Derived.Test.YtflhhbpgkjpbdaaLB
import Derived.Test.YtflhhbpgkjpbdaaPx60
import Derived.Test.YtflhhbpgkjpbdaaPx55
import Derived.Test.YtflhhbpgkjpbdaaPx81
import Derived.Test.YtflhhbpgkjpbdaaPx83
namespace Go.Proofs.Ytflhhbpgkjpbdaa
open Go.RowKit Go.Proofs.Ytflhhbpgkjpbdaa.P Go.Proofs.Ytflhhbpgkjpbdaa.L Go.Proofs.YtflhhbpgkjpbdaaW.PrintWords Go.Proofs.YtflhhbpgkjpbdaaW.PrintLast Go.Proofs.YtflhhbpgkjpbdaaW.PrintMore
set_option linter.unusedVariables false
set_option linter.unusedSimpArgs false

def flipR (l : List (List Int)) (x : Int) : List (List Int) := if (isSign l && inB x 0 1) = true then flipT l x else []
set_option maxHeartbeats 2000000 in
theorem impl_FlipColour.callsG (A0 : Option Addr) (c0 : Nat) (l0 : List (List Int)) (x : Int) (w : World) (hr0 : Kd.C (Kd.slice 3 (Kd.int .i64)) w A0 l0.length l0) (hc0 : l0.length ≤ c0) :
    Calls Try.prog 28 #[.slice A0 l0.length c0, .int .i64 x] w (RetT w (flipR l0 x) (isSign l0 && inB x 0 1)) := by
  have hsg := impl_IsSignMatrix.calls' A0 c0 l0 w hr0 hc0
  have HD := Aside0.mk (show flipR l0 x = if (isSign l0 && inB x 0 1) = true then flipT l0 x else [] from rfl)
  cases hs : isSign l0 with
  | false =>
    rw [hs] at hsg
    have HE := Aside0.mk (show flipR l0 x = [] by rw [HD.out, hs]; rfl)
    clear HD hs hr0 hc0
    go_enter Try.func28, Try.ntmps28
    go_wp2_with (go_at_call 59; refine hsg.mono ?_; rintro e w1 ⟨rfl, hb⟩)
    go_ret2
    exact ⟨_, rfl, by rw [HE.out]; exact Kd.S_nil _ _ _ _ _, hb⟩
  | true =>
    rw [hs] at hsg
    have hrg := fun W => impl_isColour.calls x (inB x 0 1) W rfl
    cases hx : inB x 0 1 with
    | false =>
      rw [hx] at hrg
      have HE := Aside0.mk (show flipR l0 x = [] by rw [HD.out, hs, hx]; rfl)
      clear HD hs hr0 hc0 hx
      go_enter Try.func28, Try.ntmps28
      go_wp2_with (first | (go_at_call 59; refine hsg.mono ?_; rintro e w1 ⟨rfl, hb⟩; have HB := Aside0.mk hb; clear hb) | (go_at_call 60; refine (hrg _).mono ?_; rintro e w2 ⟨rfl, hd⟩; have HB2 := Aside0.mk (below_step HB.out hd.below); clear hd))
      go_ret2
      exact ⟨_, rfl, by rw [HE.out]; exact Kd.S_nil _ _ _ _ _, HB2.out⟩
    | true =>
      rw [hx] at hrg
      have HE := Aside0.mk (show flipR l0 x = flipT l0 x by rw [HD.out, hs, hx]; rfl)
      have HA := Aside0.mk (fun (W : World) (hb : Below w.heap.size w W) => flipped_one x A0 c0 l0 W w hb hs (Kd.C_below hr0 hb) hc0)
      clear HD hs hr0 hc0 hx
      go_enter Try.func28, Try.ntmps28
      go_wp2_with (first | (go_at_call 59; refine hsg.mono ?_; rintro e w1 ⟨rfl, hb⟩; have HB := Aside0.mk hb; clear hb) | (go_at_call 60; refine (hrg _).mono ?_; rintro e w2 ⟨rfl, hd⟩; have HB2 := Aside0.mk (below_step HB.out hd.below); clear hd) | (go_at_call 76; refine (HA.out _ HB2.out).mono ?_; rintro e w3 ⟨v, rfl, hS, hb⟩; have HS3 := Aside0.mk hS; have HB3 := Aside0.mk hb; clear hS hb))
      go_ret2
      exact ⟨_, rfl, by rw [HE.out]; exact HS3.out, HB3.out⟩
set_option maxHeartbeats 2000000 in
theorem spec_FlipColour.callsG (A0 : Option Addr) (c0 : Nat) (l0 : List (List Int)) (x : Int) (w : World) (hf : fewRows l0) (hr0 : Kd.C (Kd.slice 3 (Kd.int .i64)) w A0 l0.length l0) (hc0 : l0.length ≤ c0) :
    Calls Try.prog 27 #[.slice A0 l0.length c0, .int .i64 x] w (RetT w (flipR l0 x) (isSign l0 && inB x 0 1)) := by
  have hsg := sgGood_calls l0 hf A0 c0 w hr0 hc0
  have HD := Aside0.mk (show flipR l0 x = if (isSign l0 && inB x 0 1) = true then flipT l0 x else [] from rfl)
  cases hs : isSign l0 with
  | false =>
    rw [hs] at hsg
    have HE := Aside0.mk (show flipR l0 x = [] by rw [HD.out, hs]; rfl)
    clear HD hs hr0 hc0
    go_enter Try.func27, Try.ntmps27
    go_wp2_with (go_at_call 54; refine hsg.mono ?_; rintro e w1 ⟨rfl, hb⟩)
    go_ret2
    exact ⟨_, rfl, by rw [HE.out]; exact Kd.S_nil _ _ _ _ _, hb⟩
  | true =>
    rw [hs] at hsg
    have hrg := fun W => spec_l1In.calls x 0 1 (inB x 0 1) W (l1In_eq x 0 1)
    cases hx : inB x 0 1 with
    | false =>
      rw [hx] at hrg
      have HE := Aside0.mk (show flipR l0 x = [] by rw [HD.out, hs, hx]; rfl)
      clear HD hs hr0 hc0 hx
      go_enter Try.func27, Try.ntmps27
      go_wp2_with (first | (go_at_call 54; refine hsg.mono ?_; rintro e w1 ⟨rfl, hb⟩; have HB := Aside0.mk hb; clear hb) | (go_at_call 55; refine (hrg _).mono ?_; rintro e w2 ⟨rfl, hd⟩; have HB2 := Aside0.mk (below_step HB.out hd.below); clear hd))
      go_ret2
      exact ⟨_, rfl, by rw [HE.out]; exact Kd.S_nil _ _ _ _ _, HB2.out⟩
    | true =>
      rw [hx] at hrg
      have HE := Aside0.mk (show flipR l0 x = flipT l0 x by rw [HD.out, hs, hx]; rfl)
      have HA := Aside0.mk (fun (W : World) (hb : Below w.heap.size w W) => (spec_gyFlip.callsG A0 c0 l0 x W hs (Kd.C_below hr0 hb) hc0).mono fun e w' h => RetS.mono_ hb h)
      clear HD hs hr0 hc0 hx
      go_enter Try.func27, Try.ntmps27
      go_wp2_with (first | (go_at_call 54; refine hsg.mono ?_; rintro e w1 ⟨rfl, hb⟩; have HB := Aside0.mk hb; clear hb) | (go_at_call 55; refine (hrg _).mono ?_; rintro e w2 ⟨rfl, hd⟩; have HB2 := Aside0.mk (below_step HB.out hd.below); clear hd) | (go_at_call 75; refine (HA.out _ HB2.out).mono ?_; rintro e w3 ⟨v, rfl, hS, hb⟩; have HS3 := Aside0.mk hS; have HB3 := Aside0.mk hb; clear hS hb))
      go_ret2
      exact ⟨_, rfl, by rw [HE.out]; exact HS3.out, HB3.out⟩
/-- f done n times. -/
def iterN (f : List (List Int) → List (List Int)) (l : List (List Int)) : Nat → List (List Int)
  | 0 => l
  | n + 1 => f (iterN f l n)
theorem iterN_sign {f : List (List Int) → List (List Int)} (hf : ∀ l, isSign l = true → isSign (f l) = true) {l : List (List Int)} (hs : isSign l = true) : ∀ n, isSign (iterN f l n) = true
  | 0 => hs
  | n + 1 => hf _ (iterN_sign hf hs n)
def fwd (l : List (List Int)) : List (List Int) := flip2 l 0 1
def bwd (l : List (List Int)) : List (List Int) := flip2 l 1 0
def stepsT (l : List (List Int)) (k : Int) : List (List Int) := iterN bwd (iterN fwd l k.toNat) (-k).toNat
def stepsR (l : List (List Int)) (k : Int) : List (List Int) := if (isSign l && inB k (-1000) 1000) = true then stepsT l k else []
theorem own_ev_l0 (l : List (List Int)) (hf : fewRows l) : ∀ (d i : Nat), i + d = l.length → Ev (fun k => spec_gyOwn.l0 k (l.take i) l l.length i) l := by
  have hl := hf.1
  intro d
  induction d with
  | zero =>
    intro i hi
    refine Ev.step (fun k => by rw [spec_gyOwn.l0]) ?_
    rw [List.take_of_length_le (by omega)]
    exact Ev.ite_neg (by omega) (Ev.now _)
  | succ d ih =>
    intro i hi
    have hlt : i < l.length := by omega
    have hnext := ih (i + 1) (by omega)
    rw [List.take_succ_eq_append_getElem hlt] at hnext
    have hr := hf.2 _ (List.getElem_mem hlt)
    refine Ev.step (fun k => by rw [spec_gyOwn.l0]) ?_
    rw [rd1_at l i hlt, wrapS i (by omega)]
    refine Ev.ite_pos (by omega) (Ev.ite_pos (by omega) (Ev.ite_pos (by omega) ?_))
    refine Ev.some_bind (a := l[i]) (by unfold spec_l1Own.f; first | rfl | (rw [if_pos (by omega)]; rfl) | (simp; omega) | simp) ?_
    exact Ev.ite_pos (by rw [List.length_take]; omega) hnext
theorem own_ev (l : List (List Int)) (hf : fewRows l) : Ev (fun k => spec_gyOwn.f k l) l := own_ev_l0 l hf l.length 0 (by omega)
theorem copy_ev_l0 (l : List (List Int)) (hf : fewRows l) : ∀ (d i : Nat), i + d = l.length → Ev (fun k => impl_copyTable.l0 k (l.take i) l l.length i) l := by
  have hl := hf.1
  intro d
  induction d with
  | zero =>
    intro i hi
    refine Ev.step (fun k => by rw [impl_copyTable.l0]) ?_
    rw [List.take_of_length_le (by omega)]
    exact Ev.ite_neg (by omega) (Ev.now _)
  | succ d ih =>
    intro i hi
    have hlt : i < l.length := by omega
    have hnext := ih (i + 1) (by omega)
    rw [List.take_succ_eq_append_getElem hlt] at hnext
    have hr := hf.2 _ (List.getElem_mem hlt)
    refine Ev.step (fun k => by rw [impl_copyTable.l0]) ?_
    rw [rd1_at l i hlt, wrapS i (by omega)]
    refine Ev.ite_pos (by omega) (Ev.ite_pos (by omega) (Ev.ite_pos (by omega) ?_))
    refine Ev.some_bind (a := l[i]) (by unfold slices_Clone_int_int.f; rw [if_pos (by omega)]) ?_
    exact Ev.ite_pos (by rw [List.length_take]; omega) hnext
theorem copy_ev (l : List (List Int)) (hf : fewRows l) : Ev (fun k => impl_copyTable.f k l) l := copy_ev_l0 l hf l.length 0 (by omega)
set_option maxHeartbeats 4000000 in
theorem impl_GyrateSteps.callsG (A0 : Option Addr) (c0 : Nat) (l0 : List (List Int)) (x : Int) (w : World) (hf : fewRows l0) (hr0 : Kd.C (Kd.slice 3 (Kd.int .i64)) w A0 l0.length l0) (hc0 : l0.length ≤ c0) :
    Calls Try.prog 34 #[.slice A0 l0.length c0, .int .i64 x] w (RetT w (stepsR l0 x) (isSign l0 && inB x (-1000) 1000)) := by
  have hsg := impl_IsSignMatrix.calls' A0 c0 l0 w hr0 hc0
  have HD := Aside0.mk (show stepsR l0 x = if (isSign l0 && inB x (-1000) 1000) = true then stepsT l0 x else [] from rfl)
  cases hs : isSign l0 with
  | false =>
    rw [hs] at hsg
    have HE := Aside0.mk (show stepsR l0 x = [] by rw [HD.out, hs]; rfl)
    clear HD hs hr0 hc0
    go_enter Try.func34, Try.ntmps34
    go_wp2_with (go_at_call 59; refine hsg.mono ?_; rintro e w1 ⟨rfl, hb⟩)
    go_ret2
    exact ⟨_, rfl, by rw [HE.out]; exact Kd.S_nil _ _ _ _ _, hb⟩
  | true =>
    rw [hs] at hsg
    have hrg := fun W => impl_within.calls x (-1000) 1000 (inB x (-1000) 1000) W rfl
    cases hx : inB x (-1000) 1000 with
    | false =>
      rw [hx] at hrg
      have HE := Aside0.mk (show stepsR l0 x = [] by rw [HD.out, hs, hx]; rfl)
      clear HD hs hr0 hc0 hx
      go_enter Try.func34, Try.ntmps34
      go_wp2_with (first | (go_at_call 59; refine hsg.mono ?_; rintro e w1 ⟨rfl, hb⟩; have HB := Aside0.mk hb; clear hb) | (go_at_call 82; refine (hrg _).mono ?_; rintro e w2 ⟨rfl, hd⟩; have HB2 := Aside0.mk (below_step HB.out hd.below); clear hd))
      go_ret2
      exact ⟨_, rfl, by rw [HE.out]; exact Kd.S_nil _ _ _ _ _, HB2.out⟩
    | true =>
      rw [hx] at hrg
      obtain ⟨hx1, hx2⟩ := (inB_iff _ _ _).1 hx
      have HE := Aside0.mk (show stepsR l0 x = stepsT l0 x by rw [HD.out, hs, hx]; rfl)
      obtain ⟨kc, hkc⟩ := (copy_ev l0 hf).rounds
      have HO := Aside0.mk (fun (W : World) (hb : Below w.heap.size w W) => impl_copyTable.calls kc A0 c0 l0 _ W (Kd.C_below hr0 hb) hc0 hkc)
      have HF1 := Aside0.mk (fun (A : Option Addr) (c : Nat) (l : List (List Int)) (W : World) (hs : isSign l = true) (h : Kd.C (Kd.slice 3 (Kd.int .i64)) W A l.length l) (hc : l.length ≤ c) => (show Calls Try.prog 78 #[.slice A l.length c] W (RetS W (fwd l)) from impl_gyrated.callsG A c l W hs h hc))
      have HF2 := Aside0.mk (fun (A : Option Addr) (c : Nat) (l : List (List Int)) (W : World) (hs : isSign l = true) (h : Kd.C (Kd.slice 3 (Kd.int .i64)) W A l.length l) (hc : l.length ≤ c) => (show Calls Try.prog 76 #[.slice A l.length c, .slice (some ⟨W.heap.size, 0, none⟩) 2 2] (W.alloc (.cells #[.int .i64 1, .int .i64 0] 3)) (RetS W (bwd l)) from flipped_two 1 0 A c l W hs h hc))
      have HSG := Aside0.mk (fun n => iterN_sign (f := fwd) (fun l h => flip2_sign h 0 1) hs n)
      have HSG2 := Aside0.mk (fun n => iterN_sign (f := bwd) (fun l h => flip2_sign h 1 0) (HSG.out x.toNat) n)
      clear HD hs hr0 hc0 hx hkc
      go_enter Try.func34, Try.ntmps34
      go_wp2_with (first | (go_at_call 59; refine hsg.mono ?_; rintro e w1 ⟨rfl, hb⟩; have HB := Aside0.mk hb; clear hb) | (go_at_call 82; refine (hrg _).mono ?_; rintro e w2 ⟨rfl, hd⟩; have HB2 := Aside0.mk (below_step HB.out hd.below); clear hd) | (go_at_call 83; refine (HO.out _ HB2.out).mono ?_; rintro e w3 ⟨v, rfl, hS, hb⟩; have HS3 := Aside0.mk (Kd.S_lower hS HB2.out.size); have HB3 := Aside0.mk (below_step HB2.out hb); clear hS hb))
      go_loopg [6, 18] x.toNat (fun gg v6 v18 wr => ∃ i : Nat, i ≤ x.toNat ∧ x.toNat - i ≤ gg ∧ v18 = .int .i64 i ∧ Aside0 (Kd.S (Kd.slice 3 (Kd.int .i64)) 43 wr w.heap.size (fun _ => True) v6 (iterN fwd l0 i)) ∧ Aside0 (Below w.heap.size w wr))
      case atStart => exact ⟨0, Nat.zero_le _, Nat.le_refl _, by first | rfl | go_num, HS3, HB3⟩
      case round =>
        clear HS3 HB3
        obtain ⟨i, hi, hg, rfl, HS, HB⟩ := hrel
        by_cases hlt : i < x.toNat
        · have hz : (i : Int) < x := by omega
          obtain ⟨A, c, hv, hc, hC⟩ := Kd.S_reads HS.out
          subst hv
          have HEX := Aside0.mk (show iterN fwd l0 (i + 1) = fwd (iterN fwd l0 i) from rfl)
          have HQ := Aside0.mk (HF1.out A c (iterN fwd l0 i) wr (HSG.out i) hC hc)
          clear hc hC HS
          go_wp2_with (go_at_call 78; refine HQ.out.mono ?_; rintro e w4 ⟨v4, rfl, hS, hb⟩; have HS4 := Aside0.mk (Kd.S_lower hS HB.out.size); have HB4 := Aside0.mk (below_step HB.out hb); clear hS hb)
          go_roundg (x.toNat - (i + 1))
          case measure => omega
          case rel => exact ⟨i + 1, by omega, by omega, by go_num, ⟨by rw [HEX.out]; exact HS4.out⟩, HB4⟩
        · have hz : ¬ (i : Int) < x := by omega
          have hix : i = x.toNat := by omega
          rw [hix] at HS
          go_wp2
          go_loopg [6, 25] (-x).toNat (fun gg v6 v25 wr2 => ∃ i : Nat, i ≤ (-x).toNat ∧ (-x).toNat - i ≤ gg ∧ v25 = .int .i64 i ∧ Aside0 (Kd.S (Kd.slice 3 (Kd.int .i64)) 43 wr2 w.heap.size (fun _ => True) v6 (iterN bwd (iterN fwd l0 x.toNat) i)) ∧ Aside0 (Below w.heap.size w wr2))
          case atStart => exact ⟨0, Nat.zero_le _, Nat.le_refl _, by first | rfl | (rw [hix]; go_num) | go_num, HS, HB⟩
          case round =>
            clear HS HB hix hlt hi hz
            obtain ⟨i, hi, hg, rfl, HS, HB⟩ := hrel
            by_cases hlt : i < (-x).toNat
            · have hz : (i : Int) < -x := by omega
              obtain ⟨A, c, hv, hc, hC⟩ := Kd.S_reads HS.out
              subst hv
              have HEX := Aside0.mk (show iterN bwd (iterN fwd l0 x.toNat) (i + 1) = bwd (iterN bwd (iterN fwd l0 x.toNat) i) from rfl)
              have HQ := Aside0.mk (HF2.out A c (iterN bwd (iterN fwd l0 x.toNat) i) wr (HSG2.out i) hC hc)
              clear hc hC HS
              go_wp2_with (go_at_call 76; refine HQ.out.mono ?_; rintro e w4 ⟨v4, rfl, hS, hb⟩; have HS4 := Aside0.mk (Kd.S_lower hS HB.out.size); have HB4 := Aside0.mk (below_step HB.out hb); clear hS hb)
              go_roundg ((-x).toNat - (i + 1))
              case measure => omega
              case rel => exact ⟨i + 1, by omega, by omega, by go_num, ⟨by rw [HEX.out]; exact HS4.out⟩, HB4⟩
            · have hz : ¬ (i : Int) < -x := by omega
              have hix : i = (-x).toNat := by omega
              have HF := Aside0.mk (show Kd.S (Kd.slice 3 (Kd.int .i64)) 43 _ w.heap.size (fun _ => True) _ (stepsT l0 x) by have := HS.out; rw [hix] at this; exact this)
              clear hix HS
              go_wp2
              go_ret2
              exact ⟨_, rfl, by rw [HE.out]; exact HF.out, HB.out⟩
set_option maxHeartbeats 4000000 in
theorem spec_GyrateSteps.callsG (A0 : Option Addr) (c0 : Nat) (l0 : List (List Int)) (x : Int) (w : World) (hf : fewRows l0) (hr0 : Kd.C (Kd.slice 3 (Kd.int .i64)) w A0 l0.length l0) (hc0 : l0.length ≤ c0) :
    Calls Try.prog 33 #[.slice A0 l0.length c0, .int .i64 x] w (RetT w (stepsR l0 x) (isSign l0 && inB x (-1000) 1000)) := by
  have hsg := sgGood_calls l0 hf A0 c0 w hr0 hc0
  have HD := Aside0.mk (show stepsR l0 x = if (isSign l0 && inB x (-1000) 1000) = true then stepsT l0 x else [] from rfl)
  cases hs : isSign l0 with
  | false =>
    rw [hs] at hsg
    have HE := Aside0.mk (show stepsR l0 x = [] by rw [HD.out, hs]; rfl)
    clear HD hs hr0 hc0
    go_enter Try.func33, Try.ntmps33
    go_wp2_with (go_at_call 54; refine hsg.mono ?_; rintro e w1 ⟨rfl, hb⟩)
    go_ret2
    exact ⟨_, rfl, by rw [HE.out]; exact Kd.S_nil _ _ _ _ _, hb⟩
  | true =>
    rw [hs] at hsg
    have hrg := fun W => spec_l1In.calls x (-1000) 1000 (inB x (-1000) 1000) W (l1In_eq x (-1000) 1000)
    cases hx : inB x (-1000) 1000 with
    | false =>
      rw [hx] at hrg
      have HE := Aside0.mk (show stepsR l0 x = [] by rw [HD.out, hs, hx]; rfl)
      clear HD hs hr0 hc0 hx
      go_enter Try.func33, Try.ntmps33
      go_wp2_with (first | (go_at_call 54; refine hsg.mono ?_; rintro e w1 ⟨rfl, hb⟩; have HB := Aside0.mk hb; clear hb) | (go_at_call 55; refine (hrg _).mono ?_; rintro e w2 ⟨rfl, hd⟩; have HB2 := Aside0.mk (below_step HB.out hd.below); clear hd))
      go_ret2
      exact ⟨_, rfl, by rw [HE.out]; exact Kd.S_nil _ _ _ _ _, HB2.out⟩
    | true =>
      rw [hx] at hrg
      obtain ⟨hx1, hx2⟩ := (inB_iff _ _ _).1 hx
      have HE := Aside0.mk (show stepsR l0 x = stepsT l0 x by rw [HD.out, hs, hx]; rfl)
      obtain ⟨kc, hkc⟩ := (own_ev l0 hf).rounds
      have HO := Aside0.mk (fun (W : World) (hb : Below w.heap.size w W) => spec_gyOwn.calls kc A0 c0 l0 _ W (Kd.C_below hr0 hb) hc0 hkc)
      have HF1 := Aside0.mk (fun (A : Option Addr) (c : Nat) (l : List (List Int)) (W : World) (hs : isSign l = true) (h : Kd.C (Kd.slice 3 (Kd.int .i64)) W A l.length l) (hc : l.length ≤ c) => (show Calls Try.prog 77 #[.slice A l.length c] W (RetS W (fwd l)) from spec_gyNext.callsG A c l W hs h hc))
      have HF2 := Aside0.mk (fun (A : Option Addr) (c : Nat) (l : List (List Int)) (W : World) (hs : isSign l = true) (h : Kd.C (Kd.slice 3 (Kd.int .i64)) W A l.length l) (hc : l.length ≤ c) => (show Calls Try.prog 79 #[.slice A l.length c] W (RetS W (bwd l)) from spec_gyBack.callsG A c l W hs h hc))
      have HSG := Aside0.mk (fun n => iterN_sign (f := fwd) (fun l h => flip2_sign h 0 1) hs n)
      have HSG2 := Aside0.mk (fun n => iterN_sign (f := bwd) (fun l h => flip2_sign h 1 0) (HSG.out x.toNat) n)
      clear HD hs hr0 hc0 hx hkc
      go_enter Try.func33, Try.ntmps33
      go_wp2_with (first | (go_at_call 54; refine hsg.mono ?_; rintro e w1 ⟨rfl, hb⟩; have HB := Aside0.mk hb; clear hb) | (go_at_call 55; refine (hrg _).mono ?_; rintro e w2 ⟨rfl, hd⟩; have HB2 := Aside0.mk (below_step HB.out hd.below); clear hd) | (go_at_call 81; refine (HO.out _ HB2.out).mono ?_; rintro e w3 ⟨v, rfl, hS, hb⟩; have HS3 := Aside0.mk (Kd.S_lower hS HB2.out.size); have HB3 := Aside0.mk (below_step HB2.out hb); clear hS hb))
      go_loopg [1, 6] x.toNat (fun gg v1 v6 wr => ∃ i : Nat, i ≤ x.toNat ∧ x.toNat - i ≤ gg ∧ v1 = .int .i64 (x - i) ∧ Aside0 (Kd.S (Kd.slice 3 (Kd.int .i64)) 43 wr w.heap.size (fun _ => True) v6 (iterN fwd l0 i)) ∧ Aside0 (Below w.heap.size w wr))
      case atStart => exact ⟨0, Nat.zero_le _, Nat.le_refl _, by first | rfl | go_num, HS3, HB3⟩
      case round =>
        clear HS3 HB3
        obtain ⟨i, hi, hg, rfl, HS, HB⟩ := hrel
        by_cases hlt : i < x.toNat
        · have hz : 0 < x - (i : Int) := by omega
          obtain ⟨A, c, hv, hc, hC⟩ := Kd.S_reads HS.out
          subst hv
          have HEX := Aside0.mk (show iterN fwd l0 (i + 1) = fwd (iterN fwd l0 i) from rfl)
          have HQ := Aside0.mk (HF1.out A c (iterN fwd l0 i) wr (HSG.out i) hC hc)
          clear hc hC HS
          go_wp2_with (go_at_call 77; refine HQ.out.mono ?_; rintro e w4 ⟨v4, rfl, hS, hb⟩; have HS4 := Aside0.mk (Kd.S_lower hS HB.out.size); have HB4 := Aside0.mk (below_step HB.out hb); clear hS hb)
          go_roundg (x.toNat - (i + 1))
          case measure => omega
          case rel => exact ⟨i + 1, by omega, by omega, by go_num, ⟨by rw [HEX.out]; exact HS4.out⟩, HB4⟩
        · have hz : ¬ 0 < x - (i : Int) := by omega
          have hix : i = x.toNat := by omega
          rw [hix] at HS
          go_wp2
          go_loopg [1, 6] (-x).toNat (fun gg v1 v6 wr2 => ∃ i : Nat, i ≤ (-x).toNat ∧ (-x).toNat - i ≤ gg ∧ v1 = .int .i64 (x - (x.toNat : Int) + i) ∧ Aside0 (Kd.S (Kd.slice 3 (Kd.int .i64)) 43 wr2 w.heap.size (fun _ => True) v6 (iterN bwd (iterN fwd l0 x.toNat) i)) ∧ Aside0 (Below w.heap.size w wr2))
          case atStart => exact ⟨0, Nat.zero_le _, Nat.le_refl _, by first | rfl | (rw [hix]; go_num) | go_num, HS, HB⟩
          case round =>
            clear HS HB hix hlt hi hz
            obtain ⟨i, hi, hg, rfl, HS, HB⟩ := hrel
            by_cases hlt : i < (-x).toNat
            · have hz : x - (x.toNat : Int) + (i : Int) < 0 := by omega
              obtain ⟨A, c, hv, hc, hC⟩ := Kd.S_reads HS.out
              subst hv
              have HEX := Aside0.mk (show iterN bwd (iterN fwd l0 x.toNat) (i + 1) = bwd (iterN bwd (iterN fwd l0 x.toNat) i) from rfl)
              have HQ := Aside0.mk (HF2.out A c (iterN bwd (iterN fwd l0 x.toNat) i) wr (HSG2.out i) hC hc)
              clear hc hC HS
              go_wp2_with (go_at_call 79; refine HQ.out.mono ?_; rintro e w4 ⟨v4, rfl, hS, hb⟩; have HS4 := Aside0.mk (Kd.S_lower hS HB.out.size); have HB4 := Aside0.mk (below_step HB.out hb); clear hS hb)
              go_roundg ((-x).toNat - (i + 1))
              case measure => omega
              case rel => exact ⟨i + 1, by omega, by omega, by go_num, ⟨by rw [HEX.out]; exact HS4.out⟩, HB4⟩
            · have hz : ¬ x - (x.toNat : Int) + (i : Int) < 0 := by omega
              have hix : i = (-x).toNat := by omega
              have HF := Aside0.mk (show Kd.S (Kd.slice 3 (Kd.int .i64)) 43 _ w.heap.size (fun _ => True) _ (stepsT l0 x) by have := HS.out; rw [hix] at this; exact this)
              clear hix HS
              go_wp2
              go_ret2
              exact ⟨_, rfl, by rw [HE.out]; exact HF.out, HB.out⟩
end Go.Proofs.Ytflhhbpgkjpbdaa
