import Derived.Test.YtkhdpdfnfnkaoaaProg
import Derived.Below
import Derived.Deep.Draws
import Derived.Deep.AppendLies
import Derived.Maps.AppendAt
import Derived.OwnWalk
import Derived.Laws.BytesArg
import Derived.Laws.MakeOwn
import Derived.Laws.OwnMore
import Derived.Deep.OwnRows
import Derived.Tactics
import Derived.Lib.ConvBytes
import Derived.Laws.Slices
import Derived.WalkKit
import Derived.KernelRfl
import Derived.RowKit3
import Derived.Deep.LoopGhost
import Derived.Deep.QuietTactic
import Derived.BigQuiet
import Derived.WideLaws
import Derived.Deep.DeepCutAuto
import Derived.Deep.CutBlock
import Derived.Deep.RegionHeld3
import Derived.Laws.Rows
import Derived.Lib.AppendStr
import Derived.ArgAppend
import Derived.Laws.IdiomCopy
import Derived.OrdersHeld
import Derived.Laws.BitsLemmas
import Derived.RowKit
import Derived.Shelf.Abstract
import Derived.Test.YtkhdpdfnfnkaoaaWMore
import Derived.Test.YtkhdpdfnfnkaoaaWTab
import Derived.Test.YtkhdpdfnfnkaoaaWFour
import Derived.Test.YtkhdpdfnfnkaoaaHa
import Derived.WalkSpells
import Derived.Test.YtkhdpdfnfnkaoaaHs
import Derived.Test.YtkhdpdfnfnkaoaaWZeros
namespace Go.Proofs.Ytkhdpdfnfnkaoaa
open Go.RowKit Go.Proofs.YtkhdpdfnfnkaoaaW.PrintWords Go.Proofs.YtkhdpdfnfnkaoaaW.PrintLast Go.Proofs.YtkhdpdfnfnkaoaaW.PrintMore
set_option linter.unusedVariables false
set_option linter.unusedSimpArgs false

/-- Room for n numbers, nothing in it. -/
theorem slices_Grow.callsG (n : Nat) (w : World) (hn : n ≤ 1000000) :
    Calls Try.prog 20 #[.slice none 0 0, .int .i64 n] w fun e w' => ∃ v0_ : Value, e = .returned (v0_) ∧ Kd.R (Kd.int .i64) 3 w' w.heap.size (fun _ => True) v0_ [] ∧ Below w.heap.size w w' := by
  have hz0 : ¬ (n : Int) < 0 := by omega
  have HB := Aside0.mk (Below.refl w.heap.size w)
  by_cases h0 : n = 0
  · have hz1 : ¬ (n : Int) > 0 := by omega
    clear h0
    go_enter Try.func20, Try.ntmps20
    go_wp2
    go_ret
    exact ⟨_, rfl, Kd.R_nil _ _ _ _ _, HB.out⟩
  · have hz1 : (n : Int) > 0 := by omega
    have HN := Aside0.mk hn
    clear h0
    go_enter Try.func20, Try.ntmps20
    go_wp2_with ((with_reducible refine gate_builtin (b := .append) (xs := #[.tmp 20, .tmp 21]) rfl ?_); at_builtin; refine Kd.R_append_zeros (Kd.int .i64) (w0 := w) w.heap.size rfl (.tmp 20) (.tmp 21) 30 3 3 (.int .i64 0) 8 rfl Try.underlying30 Try.underlying3 info_ints rfl (by decide) (by omega) (.slice none 0 0) [] 0 (n : Int) (fun _ => True) rfl rfl rfl (fun _ _ => trivial) (Kd.R_nil _ _ _ _ _) (by omega) HB.out (Nat.le_refl _) (by have := HN.out; simp; omega) ?_; intro v1 w1 ho hb hg hat; obtain ⟨A1, c1, rfl⟩ := Kd.R_slice ho; have HO := Aside0.mk (Kd.R_take (m := 0) ho (Nat.zero_le _)); have HB1 := Aside0.mk hb; clear ho hb hg hat)
    go_ret
    exact ⟨_, rfl, HO.out, HB1.out⟩
def catTo (l : List (List Int)) (i : Nat) : List Int := (l.take i).flatten
theorem catTo_succ (l : List (List Int)) (i : Nat) (h : i < l.length) : catTo l (i + 1) = catTo l i ++ l.getD i [] := by
  unfold catTo
  rw [List.take_succ_eq_append_getElem h, List.flatten_append, List.getD_eq_getElem?_getD, List.getElem?_eq_getElem h]
  simp
def catLen (l : List (List Int)) : Nat → Nat
  | 0 => 0
  | i + 1 => catLen l i + (l.getD i []).length
theorem catTo_length (l : List (List Int)) : ∀ i, i ≤ l.length → (catTo l i).length = catLen l i
  | 0, _ => by simp [catTo, catLen]
  | i + 1, h => by rw [catTo_succ l i (by omega), List.length_append, catTo_length l i (by omega), catLen]
def slices_Concat_int_int.f (l0 : List (List Int)) : Option (List Int) := if l0.length ≤ 1000 ∧ (l0.all fun r => decide (r.length ≤ 1000)) = true then some l0.flatten else none
set_option maxHeartbeats 4000000 in
theorem slices_Concat_int_int.calls (A0 : Option Addr) (c0 : Nat) (l0 : List (List Int)) (r : List Int) (w : World) (hr0 : Kd.C (Kd.slice 3 (Kd.int .i64)) w A0 l0.length l0) (hc0 : l0.length ≤ c0) (h : slices_Concat_int_int.f l0 = some r) :
    Calls Try.prog 14 #[.slice A0 l0.length c0] w fun e w' => ∃ v0_ : Value, e = .returned (v0_) ∧ Kd.R (Kd.int .i64) 3 w' w.heap.size (fun _ => True) v0_ r ∧ Below w.heap.size w w' := by
  unfold slices_Concat_int_int.f at h
  by_cases hc : l0.length ≤ 1000 ∧ (l0.all fun r => decide (r.length ≤ 1000)) = true
  · rw [if_pos hc] at h
    obtain rfl := Option.some.inj h
    clear h
    obtain ⟨hl, hall⟩ := hc
    have hrl : ∀ i, (l0.getD i []).length ≤ 1000 := fun i => by
      rw [List.getD_eq_getElem?_getD]
      rcases Nat.lt_or_ge i l0.length with hi | hi
      · rw [List.getElem?_eq_getElem hi]; exact of_decide_eq_true (List.all_eq_true.1 hall _ (List.getElem_mem hi))
      · rw [List.getElem?_eq_none hi]; simp
    have hcl : ∀ i, catLen l0 i ≤ 1000 * i := fun i => by
      induction i with
      | zero => simp [catLen]
      | succ i ih => have := hrl i; rw [catLen]; omega
    have HRL := Aside0.mk hrl
    have HCL := Aside0.mk hcl
    have HR0 := Aside0.mk hr0
    have HB := Aside0.mk (Below.refl w.heap.size w)
    clear hr0 hall hrl hcl hc0
    go_enter Try.func14, Try.ntmps14
    go_wp2
    go_loop [3, 5, 11] (fun s3 s5 s11 => ∃ i : Nat, i ≤ l0.length ∧ s11 = .int .i64 i ∧ s3 = .int .i64 (catLen l0 i : Nat)) (fun _ _ s11 => l0.length - (intOf s11).toNat)
    case atStart => exact ⟨0, Nat.zero_le _, rfl, rfl⟩
    case round =>
      obtain ⟨i, hi, rfl, rfl⟩ := hrel
      by_cases hlt : i < l0.length
      · have hz : (i : Int) < (l0.length : Int) := by omega
        obtain ⟨ad, Ar, cr, e0, hx, _, hrow⟩ := rowsAt HR0.out i hlt
        cases e0
        have hr1 := HRL.out i
        have hr2 := HCL.out i
        have HE := Aside0.mk (show catLen l0 (i + 1) = catLen l0 i + (l0.getD i []).length from rfl)
        obtain ⟨n1, hn1⟩ : ∃ n, n = (l0.getD i []).length := ⟨_, rfl⟩
        obtain ⟨n2, hn2⟩ : ∃ n, n = catLen l0 i := ⟨_, rfl⟩
        rw [← hn1] at hx hr1 HE
        rw [← hn2] at hr2 HE ⊢
        have hz2 : ¬ (n2 : Int) + (n1 : Int) < 0 := by omega
        have hb2 : (n2 : Int) + (n1 : Int) ≤ 2000000 := by omega
        clear hrow hn1 hn2
        go_wp2
        go_round
        case rel => exact ⟨i + 1, by omega, by go_num, by rw [HE.out]; go_num⟩
        case measure => simp [intOf]; omega
      · have hz : ¬ (i : Int) < (l0.length : Int) := by omega
        obtain rfl : i = l0.length := by omega
        have hr2 := HCL.out l0.length
        obtain ⟨n3, hn3⟩ : ∃ n, n = catLen l0 l0.length := ⟨_, rfl⟩
        rw [← hn3] at hr2 ⊢
        have HG := Aside0.mk (slices_Grow.callsG n3 w (by omega))
        clear hr2 hn3
        go_wp2_with (go_at_call 20; refine HG.out.mono ?_; rintro e w1 ⟨v, rfl, hS, hb⟩; have HS := Aside0.mk hS; have HB1 := Aside0.mk hb; clear hS hb)
        go_loopg [6, 8, 27] l0.length (fun gg s6 s8 s27 wr => ∃ j : Nat, j ≤ l0.length ∧ l0.length - j ≤ gg ∧ s27 = .int .i64 j ∧ Aside0 (Kd.R (Kd.int .i64) 3 wr w.heap.size (fun _ => True) s6 (catTo l0 j)) ∧ Aside0 (Below w.heap.size w wr))
        case atStart => exact ⟨0, Nat.zero_le _, Nat.le_refl _, rfl, ⟨by unfold catTo; simp; exact HS.out⟩, HB1⟩
        case round =>
          clear HS HB1 HB hz hlt hi HG
          obtain ⟨j, hj, hgj, rfl, HS, HB⟩ := hrel
          by_cases hlt : j < l0.length
          · have hz : (j : Int) < (l0.length : Int) := by omega
            obtain ⟨ad', Ar, cr, e0, hx, _, hrow⟩ := rowsAt HR0.out j hlt
            cases e0
            replace hx := pw_cell_below HB.out hx
            have HRW := Aside0.mk (Kd.C_below hrow HB.out)
            have HEX := Aside0.mk (catTo_succ l0 j hlt)
            have HLN := Aside0.mk (show (catTo l0 j).length + (l0.getD j []).length ≤ 2000000 by
              have h1 := catTo_length l0 j hj
              have h2 := HCL.out j
              have h3 := HRL.out j
              omega)
            obtain ⟨row, hrw⟩ : ∃ r, r = l0.getD j [] := ⟨_, rfl⟩
            rw [← hrw] at hx HRW HEX HLN
            obtain ⟨acc, hacc⟩ : ∃ r, r = catTo l0 j := ⟨_, rfl⟩
            rw [← hacc] at HS HEX HLN
            clear hrow hrw hacc
            obtain ⟨v6, hv6⟩ : ∃ v, v = u6 := ⟨_, rfl⟩
            subst hv6
            go_wp2_with ((with_reducible refine gate_builtin (b := .append) (xs := #[.tmp 31, .tmp 32]) rfl ?_); at_builtin; refine Kd.R_append_rows (Kd.int .i64) (w0 := w) w.heap.size rfl (.tmp 31) (.tmp 32) 30 3 (.int .i64 0) 8 rfl Try.underlying30 info_ints rfl (by decide) (by omega) v6 acc row _ _ _ (fun _ => True) (fun _ => False) rfl rfl HS.out HRW.out (fun _ _ h => h) (fun _ h => h.elim) (fun _ _ => trivial) HB.out (below_size HB.out) (by have := HLN.out; omega) ?_; intro v105 w5 ho hb hg hat; rw [← HEX.out] at ho; have HS2 := Aside0.mk ho; have HB2 := Aside0.mk hb; clear ho hb hg hat)
            go_roundg (l0.length - (j + 1))
            case measure => omega
            case rel => exact ⟨j + 1, by omega, by omega, by go_num, HS2, HB2⟩
          · have hz : ¬ (j : Int) < (l0.length : Int) := by omega
            have HF := Aside0.mk (show Kd.R (Kd.int .i64) 3 _ w.heap.size (fun _ => True) _ l0.flatten by
              have := HS.out
              unfold catTo at this
              rw [List.take_of_length_le (by omega)] at this
              exact this)
            clear HS
            go_wp2
            go_ret
            exact ⟨_, rfl, HF.out, HB.out⟩
  · rw [if_neg hc] at h
    cases h
end Go.Proofs.Ytkhdpdfnfnkaoaa
