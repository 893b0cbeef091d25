/- Texts of one chain, in build order. -/
import Derived.Test.YtdcdkckpmkfjdaaYBJointTableSpreadOfParts24
import Derived.Test.YtdcdkckpmkfjdaaWMore
import Derived.Test.YtdcdkckpmkfjdaaProg
import Derived.Below
import Derived.Deep.Draws
import Derived.Deep.AppendLies
import Derived.Maps.AppendAt
import Derived.OwnWalk
import Derived.Laws.BytesArg
import Derived.Laws.MakeOwn
import Derived.Laws.OwnMore
import Derived.Deep.OwnRows
import Derived.Tactics
import Derived.Lib.ConvBytes
import Derived.Laws.Slices
import Derived.WalkKit
import Derived.KernelRfl
import Derived.RowKit3
import Derived.Deep.LoopGhost
import Derived.Deep.QuietTactic
import Derived.BigQuiet
import Derived.WideLaws
import Derived.Deep.DeepCutAuto
import Derived.Deep.CutBlock
import Derived.Deep.RegionHeld3
import Derived.Laws.Rows
import Derived.Lib.AppendStr
import Derived.ArgAppend
import Derived.Laws.IdiomCopy
import Derived.OrdersHeld
import Derived.Laws.BitsLemmas
import Derived.RowKit
import Derived.Shelf.Abstract
import Derived.Test.YtdcdkckpmkfjdaaWTab
import Derived.Test.YtdcdkckpmkfjdaaWFour
namespace Go.Proofs.Ytdcdkckpmkfjdaa.Law
open Go.RowKit Go.Proofs.Ytdcdkckpmkfjdaa Go.Proofs.Ytdcdkckpmkfjdaa.P Go.Proofs.Ytdcdkckpmkfjdaa.L Go.Proofs.YtdcdkckpmkfjdaaW.PrintWords Go.Proofs.YtdcdkckpmkfjdaaW.PrintLast Go.Proofs.YtdcdkckpmkfjdaaW.PrintMore
set_option linter.unusedVariables false
set_option linter.unusedSimpArgs false

set_option maxHeartbeats 8000000 in
set_option maxRecDepth 100000 in
theorem lawSpreadOfParts (n : Int) (r : List (List Int)) (b : Bool) (W : World) (hr : fewRows r)
  (hspec : ∀ W' : World, Calls Try.prog 36 #[.int .i64 n] W' (RetC (Kd.slice 3 (Kd.int .i64)) W' r b))
  (himpl : ∀ W' : World, Calls Try.prog 37 #[.int .i64 n] W' (RetTT W' r b)) :
  Calls Try.prog 9 #[.int .i64 n] W fun e w' => e = .returned (.bool true) ∧ Below W.heap.size W w' := by
 have HSP := Aside0.mk hspec
 have HIM := Aside0.mk himpl
 have HB := Aside0.mk (Below.refl W.heap.size W)
 obtain ⟨kr, hkr⟩ := (eqIntSS r hr.ok).rounds
 obtain ⟨kh, hkh⟩ := (heldIntSS_ev r 1 (by have := hr.1; omega) (few_n hr)).rounds
 have HER := Aside0.mk (fun W' A0 c0 A1 c1 h0 g0 h1 g1 => laws_eqIntSS.calls kr A0 c0 r A1 c1 r true W' h0 g0 h1 g1 hkr)
 have HHE := Aside0.mk (fun W' A0 c0 h0 g0 => laws_heldIntSS.calls kh A0 c0 (markT r 1) 1 ((nTo r 1 r.length) : Nat) W' h0 g0 hkh)
 have HMG := Aside0.mk (fun (a b : Nat) (v : Value) (w : World) (hB : Below W.heap.size W w) (ho : Own W.heap.size a b w v r) => mark_own rfl hB ho hr)
 have hnr : ¬ (((nTo r 1 r.length) : Nat) : Int) < 0 := by omega
 have hml : (markT r 1).length = r.length := markS_length _ _ _
 obtain ⟨nr, hnre⟩ : ∃ n, n = (nTo r 1 r.length) := ⟨_, rfl⟩
 rw [← hnre] at HMG HHE hnr
 rw [hml] at HHE
 obtain ⟨mr, hmr⟩ : ∃ m, m = (markT r 1) := ⟨_, rfl⟩
 rw [← hmr] at HMG HHE hml
 have HML := Aside0.mk hml
 clear hr hspec himpl hkr hkh hnre hmr hml
 go_enter Try.func9, Try.ntmps9
 go_wp2_with (first
  | (go_at_call 36; refine (HSP.out _).mono ?_; rintro e w1 ⟨Aw, cw, rfl, hcw, hC, hb⟩; have HW := Aside0.mk (Old.new heap_T hC); have HWc := Aside0.mk hcw; (have n_ := Aside0.mk (below_step HB.out hb)); clear HB; have HB := n_; clear hb hC hcw)
  | (go_at_call 37; have hg_ := HG; clear hg_; refine (HIM.out _).mono ?_; rintro e w1 ⟨v, rfl, hS, hb⟩; have ho := Own.new hS HB.out.size; clear hS; obtain ⟨Ah, ch, rfl, hch⟩ := ho.slice; (try (have n_ := Aside0.mk (HW.out.below hb); clear HW; have HW := n_)); (try (have n_ := Aside0.mk (HG.out.below hb); clear HG; have HG := n_)); (try (have n_ := Aside0.mk (HG1.out.below hb); clear HG1; have HG1 := n_)); (have n_ := Aside0.mk (below_step HB.out hb)); clear HB; have HB := n_; clear hb; have HG1 := Aside0.mk ho; have HG1c := Aside0.mk hch; clear ho hch)
  | (go_at_call 37; refine (HIM.out _).mono ?_; rintro e w1 ⟨v, rfl, hS, hb⟩; have ho := Own.new hS HB.out.size; clear hS; obtain ⟨Ag, cg, rfl, hcg⟩ := ho.slice; have HD13 := Aside0.mk HW.out.hi; (try (have n_ := Aside0.mk (HW.out.below hb); clear HW; have HW := n_)); (try (have n_ := Aside0.mk (HG.out.below hb); clear HG; have HG := n_)); (try (have n_ := Aside0.mk (HG1.out.below hb); clear HG1; have HG1 := n_)); (have n_ := Aside0.mk (below_step HB.out hb)); clear HB; have HB := n_; clear hb; have HG := Aside0.mk ho; have HGc := Aside0.mk hcg; clear ho hcg)
  | (go_at_call 33; (first | (with_reducible refine (HER.out _ _ _ _ _ HG.out.reads HGc.out HW.out.reads HWc.out).mono ?_) | (with_reducible refine (HER.out _ _ _ _ _ HG1.out.reads HG1c.out HW.out.reads HWc.out).mono ?_)); rintro e w1 ⟨rfl, hd⟩; have hb := hd.below; clear hd; (try (have n_ := Aside0.mk (HW.out.below hb); clear HW; have HW := n_)); (try (have n_ := Aside0.mk (HG.out.below hb); clear HG; have HG := n_)); (try (have n_ := Aside0.mk (HG1.out.below hb); clear HG1; have HG1 := n_)); (have n_ := Aside0.mk (below_step HB.out hb)); clear HB; have HB := n_; clear hb)
  | (go_at_call 34; (with_reducible refine (HMG.out _ _ _ _ HB.out HG.out).mono ?_); rintro e w1 ⟨rfl, ho, hb, hk⟩; have n1_ := Aside0.mk (HW.out.kept hk HD13.out); clear HW HG HB hk; have HW := n1_; have HG := Aside0.mk ho; have HB := Aside0.mk hb; clear n1_ hb ho)
  | (go_at_call 35; (with_reducible refine (HHE.out _ _ _ (HG.out.reads' HML.out) HGc.out).mono ?_); rintro e w1 ⟨rfl, hd⟩; have hb := hd.below; clear hd; (try (have n_ := Aside0.mk (HW.out.below hb); clear HW; have HW := n_)); (try (have n_ := Aside0.mk (HG.out.below hb); clear HG; have HG := n_)); (try (have n_ := Aside0.mk (HG1.out.below hb); clear HG1; have HG1 := n_)); (have n_ := Aside0.mk (below_step HB.out hb)); clear HB; have HB := n_; clear hb))
 go_ret
 exact ⟨rfl, HB.out⟩
end Go.Proofs.Ytdcdkckpmkfjdaa.Law

namespace Go.Proofs.Ytdcdkckpmkfjdaa
open Go.RowKit Go.Proofs.Ytdcdkckpmkfjdaa.P Go.Proofs.Ytdcdkckpmkfjdaa.L Go.Proofs.YtdcdkckpmkfjdaaW.PrintWords Go.Proofs.YtdcdkckpmkfjdaaW.PrintLast Go.Proofs.YtdcdkckpmkfjdaaW.PrintMore
set_option linter.unusedVariables false
set_option linter.unusedSimpArgs false

theorem impl_isDescending.calls' (A0 : Option Addr) (c0 : Nat) (l0 : List (List Int)) (n : Int) (w : World) (hr0 : Kd.C (Kd.slice 3 (Kd.int .i64)) w A0 l0.length l0) (hc0 : l0.length ≤ c0) (hl : rowsOk l0) :
  Calls Try.prog 105 #[.slice A0 l0.length c0, .int .i64 n] w fun e w' => e = .returned (.bool (isDesc n l0)) ∧ Below w.heap.size w w' := by
 obtain ⟨k, hk⟩ := (impl_isDesc_ev n l0 hl).rounds
 exact impl_isDescending.calls k A0 c0 l0 n (isDesc n l0) w hr0 hc0 hk

theorem goodFrom_row (n : Int) (l : List (List Int)) (h : goodFrom n l 0 = true) (i : Nat) (hi : i < l.length) : rowGood n (l.getD i []) = true := by
 have := List.all_eq_true.1 h i (by rw [List.mem_range'_1]; omega)
 simp only [Bool.and_eq_true] at this
 exact this.1
def bitI (b : Bool) : Int := if b then 1 else 0
theorem impl_bit.calls' (b : Bool) (w : World) :
  Calls Try.prog 143 #[.bool b] w fun e w' => e = .returned (.int .i64 (bitI b)) ∧ w = w' := by
 cases b with
 | true =>
  go_enter Try.func143, Try.ntmps143
  go_wp2
  go_ret
  exact ⟨rfl, rfl⟩
 | false =>
  go_enter Try.func143, Try.ntmps143
  go_wp2
  go_ret
  exact ⟨rfl, rfl⟩

/-- How many of the first j numbers are such. -/
def cnt (p : Int → Int → Bool) (r : List Int) : Nat → Int
 | 0 => 0
 | j + 1 => cnt p r j + bitI (p (rd r j) j)
def cntAllP (p : Int → Int → Bool) (l : List (List Int)) : Nat → Int
 | 0 => 0
 | i + 1 => cntAllP p l i + cnt p (l.getD i []) (l.getD i []).length
theorem bitI_le (b : Bool) : 0 ≤ bitI b ∧ bitI b ≤ 1 := by cases b <;> decide
theorem cnt_le (p : Int → Int → Bool) (r : List Int) : ∀ j : Nat, 0 ≤ cnt p r j ∧ cnt p r j ≤ j := by
 intro j
 induction j with
 | zero => exact ⟨Int.le_refl _, Int.le_refl _⟩
 | succ j ih => have := bitI_le (p (rd r j) j); rw [cnt]; omega
theorem cntAllP_le (p : Int → Int → Bool) (l : List (List Int)) (hb : ∀ i, i < l.length → (l.getD i []).length ≤ 100) : ∀ i : Nat, i ≤ l.length → 0 ≤ cntAllP p l i ∧ cntAllP p l i ≤ 100 * i := by
 intro i
 induction i with
 | zero => intro _; exact ⟨Int.le_refl _, Int.le_refl _⟩
 | succ i ih =>
  intro hi
  have := ih (by omega)
  have := cnt_le p (l.getD i []) (l.getD i []).length
  have := hb i (by omega)
  rw [cntAllP]; omega

def RetCount (w : World) (l : List (List Int)) (p : Int → Int → Bool) (e : Ending) (w' : World) : Prop :=
 e = .returned (.tuple #[.int .i64 (if isDesc 6 l = true then cntAllP p l l.length else 0), .bool (isDesc 6 l)]) ∧ Below w.heap.size w w'
set_option maxHeartbeats 4000000 in
theorem impl_countParts.callsG (g : Nat) (lb : Array Value) (p : Int → Int → Bool) (A0 : Option Addr) (c0 : Nat) (l0 : List (List Int)) (w : World)
  (eg : ∀ args w, (callFunc g args).run Try.prog w = .ok (.enter g args) w)
  (hp : ∀ (x i : Int) (W : World), Below w.heap.size w W → Gives Try.prog g (#[.int .i64 x, .int .i64 i] ++ lb) W (.bool (p x i)))
  (hr0 : Kd.C (Kd.slice 3 (Kd.int .i64)) w A0 l0.length l0) (hc0 : l0.length ≤ c0) (hl : rowsOk l0) :
  Calls Try.prog 126 #[.slice A0 l0.length c0, .func (.func g) #[] lb] w (RetCount w l0 p) := by
 have hl1 := hl.1
 have HL := Aside0.mk hl
 have HR0 := Aside0.mk hr0
 have HP := Aside0.mk hp
 have hdesc := impl_isDescending.calls' A0 c0 l0 6 w hr0 hc0 hl
 clear hr0 hp hl
 cases hd : isDesc 6 l0 with
 | false =>
  rw [hd] at hdesc
  have HD := Aside0.mk hd
  clear hd
  go_enter Try.func126, Try.ntmps126
  go_wp2_with (go_at_call 105; refine hdesc.mono ?_; rintro e w' ⟨rfl, hb⟩)
  go_ret2
  exact ⟨by rw [HD.out]; rfl, hb⟩
 | true =>
  rw [hd] at hdesc
  have HD := Aside0.mk hd
  have hb100 : ∀ i, i < l0.length → (l0.getD i []).length ≤ 100 := fun i hi => by have := (rowGood_facts (goodFrom_row 6 l0 hd i hi)).2.1; omega
  have hlen : l0.length ≤ 6 := by have := isDesc_short 6 l0 (by omega) hd; omega
  have HB100 := Aside0.mk hb100
  clear hd hb100
  go_enter Try.func126, Try.ntmps126
  go_wp2_with (go_at_call 105; refine hdesc.mono ?_; rintro e w1 ⟨rfl, hb⟩; have HB1 := Aside0.mk hb; clear hb)
  go_loopg [6, 8, 9, 10, 16] l0.length (fun gg s6 s8 s9 s10 s16 wr => ∃ i : Nat, i ≤ l0.length ∧ l0.length - i ≤ gg ∧ s16 = .int .i64 i ∧ s6 = .int .i64 (cntAllP p l0 i) ∧ Aside0 (Below w.heap.size w wr))
  case atStart => exact ⟨0, Nat.zero_le _, Nat.le_refl _, rfl, rfl, HB1⟩
  case round =>
   clear HB1
   obtain ⟨i, hi, hg, rfl, rfl, HB⟩ := hrel
   by_cases hlt : i < l0.length
   ·have hlz : (i : Int) < (l0.length : Int) := by omega
    obtain ⟨ad, A1, c1, e0, hx, hc1, hrow⟩ := rowsAt HR0.out i hlt
    cases e0
    replace hx := pw_cell_below HB.out hx
    have hca := cntAllP_le p l0 HB100.out i (by omega)
    have hcs : cntAllP p l0 (i + 1) = cntAllP p l0 i + cnt p (l0.getD i []) (l0.getD i []).length := rfl
    have hb1 := HB100.out i hlt
    obtain ⟨row, hrw⟩ : ∃ r, r = l0.getD i [] := ⟨_, rfl⟩
    rw [← hrw] at hx hrow hcs hb1
    obtain ⟨ca, hcae⟩ : ∃ c, c = cntAllP p l0 i := ⟨_, rfl⟩
    rw [← hcae] at hca hcs ⊢
    have HCS := Aside0.mk hcs
    have HROW := Aside0.mk hrow
    clear hrw hrow hc1 hcs hcae
    go_wp2
    go_loopg [6, 9, 10, 22] row.length (fun gj s6 s9 s10 s22 wr2 => ∃ j : Nat, j ≤ row.length ∧ row.length - j ≤ gj ∧ s22 = .int .i64 j ∧ s6 = .int .i64 (ca + cnt p row j) ∧ Aside0 (Below w.heap.size w wr2))
    case atStart => exact ⟨0, Nat.zero_le _, Nat.le_refl _, rfl, by simp [cnt], HB⟩
    case round =>
     clear hx HB
     obtain ⟨j, hj, hgj, rfl, rfl, HB⟩ := hrel
     have hcn := cnt_le p row j
     by_cases hjt : j < row.length
     ·have hjz : (j : Int) < (row.length : Int) := by omega
      obtain ⟨ad2, e2, hx2⟩ := Kd.at_int HROW.out j (by omega) hjz
      cases e2
      replace hx2 := pw_cell_below HB.out hx2
      simp only [Int.toNat_natCast] at hx2
      have hbt := bitI_le (p (rd row j) j)
      have hst : ca + cnt p row (j + 1) = ca + cnt p row j + bitI (p (rd row j) j) := by rw [cnt]; omega
      have HST := Aside0.mk hst
      clear hst
      have hcall := fun W hb => HP.out (rd row j) j W hb
      go_wp2_with (first | (go_at_fn g; refine (hcall _ HB.out).mono ?_; rintro e w' ⟨rfl, hb⟩; have HB2 := Aside0.mk (below_step HB.out hb); clear hb) | (go_at_call 143; refine (impl_bit.calls' _ _).mono ?_; rintro e w' ⟨rfl, rfl⟩))
      go_roundg (row.length - (j + 1))
      case measure => omega
      case rel => exact ⟨j + 1, by omega, by omega, by go_num, by rw [HST.out], HB2⟩
     ·have hjz : ¬ (j : Int) < (row.length : Int) := by omega
      have hjr : j = row.length := by omega
      subst hjr
      go_wp2
      go_roundg (l0.length - (i + 1))
      case measure => omega
      case rel => exact ⟨i + 1, by omega, by omega, by go_num, by rw [HCS.out], HB⟩
   ·have hlz : ¬ (i : Int) < (l0.length : Int) := by omega
    have hil : i = l0.length := by omega
    subst hil
    go_wp2
    go_ret2
    exact ⟨by rw [HD.out]; rfl, HB.out⟩


theorem PartsOf_1.calls (x i : Int) (W : World) : Gives Try.prog 127 #[.int .i64 x, .int .i64 i] W (.bool true) := by
 unfold Gives
 go_enter Try.func127, Try.ntmps127
 go_wp2
 go_ret
 exact ⟨rfl, Below.refl _ _⟩
theorem SpecialParts_1.calls (x i : Int) (W : World) : Gives Try.prog 128 #[.int .i64 x, .int .i64 i] W (.bool (decide (x ≤ i))) := by
 unfold Gives
 go_enter Try.func128, Try.ntmps128
 go_wp2
 go_ret
 exact ⟨rfl, Below.refl _ _⟩
theorem PartsEqual_1.calls (x i n : Int) (b : Nat) (W : World) (h : W.cell? ⟨b, 0, none⟩ = some (.int .i64 n)) : Gives Try.prog 137 #[.int .i64 x, .int .i64 i, .pointer (some ⟨b, 0, none⟩)] W (.bool (x == n)) := by
 unfold Gives
 go_enter Try.func137, Try.ntmps137
 go_wp2
 go_ret
 exact ⟨rfl, Below.refl _ _⟩

def rowsOkB (l : List (List Int)) : Bool := decide (l.length ≤ 11728124029610) && (l.all fun r => decide (r.length ≤ 17592186044416))
theorem rowsOkB_iff (l : List (List Int)) : rowsOkB l = true ↔ rowsOk l := by
 simp only [rowsOkB, Bool.and_eq_true, decide_eq_true_eq, List.all_eq_true, rowsOk]
def countF (p : Int → Int → Bool) (l : List (List Int)) : Int × Bool := (if isDesc 6 l = true then cntAllP p l l.length else 0, isDesc 6 l)

def impl_PartsOf.f (l0 : List (List Int)) : Option (Int × Bool) := if rowsOkB l0 = true then some (countF (fun _ _ => true) l0) else none
theorem impl_PartsOf.calls (A0 : Option Addr) (c0 : Nat) (l0 : List (List Int)) (r1 : Int) (r2 : Bool) (w : World) (hr0 : Kd.C (Kd.slice 3 (Kd.int .i64)) w A0 l0.length l0) (hc0 : l0.length ≤ c0) (h : impl_PartsOf.f l0 = some (r1, r2)) :
  Calls Try.prog 90 #[.slice A0 l0.length c0] w fun e w' => e = .returned (.tuple #[.int .i64 r1, .bool r2]) ∧ Below w.heap.size w w' := by
 unfold impl_PartsOf.f at h
 by_cases hl : rowsOkB l0 = true
 ·rw [if_pos hl] at h
  have h := Option.some.inj h
  have hcon := impl_countParts.callsG 127 #[] (fun _ _ => true) A0 c0 l0 w (enters_of Try.func127 (by kernel_rfl) rfl) (fun x i W _ => PartsOf_1.calls x i W) hr0 hc0 ((rowsOkB_iff l0).1 hl)
  unfold RetCount at hcon
  change countF _ l0 = _ at h
  obtain ⟨e1, e2⟩ := Prod.mk.inj h
  rw [e1, e2] at hcon
  clear e1 e2 h hr0 hl
  go_enter Try.func90, Try.ntmps90
  go_wp2_with (go_at_call 126; refine hcon.mono ?_; rintro e w' ⟨rfl, hb⟩)
  go_ret2
  exact ⟨rfl, hb⟩
 ·rw [if_neg hl] at h
  cases h
def impl_SpecialParts.f (l0 : List (List Int)) : Option (Int × Bool) := if rowsOkB l0 = true then some (countF (fun x i => decide (x ≤ i)) l0) else none
theorem impl_SpecialParts.calls (A0 : Option Addr) (c0 : Nat) (l0 : List (List Int)) (r1 : Int) (r2 : Bool) (w : World) (hr0 : Kd.C (Kd.slice 3 (Kd.int .i64)) w A0 l0.length l0) (hc0 : l0.length ≤ c0) (h : impl_SpecialParts.f l0 = some (r1, r2)) :
  Calls Try.prog 91 #[.slice A0 l0.length c0] w fun e w' => e = .returned (.tuple #[.int .i64 r1, .bool r2]) ∧ Below w.heap.size w w' := by
 unfold impl_SpecialParts.f at h
 by_cases hl : rowsOkB l0 = true
 ·rw [if_pos hl] at h
  have h := Option.some.inj h
  have hcon := impl_countParts.callsG 128 #[] (fun x i => decide (x ≤ i)) A0 c0 l0 w (enters_of Try.func128 (by kernel_rfl) rfl) (fun x i W _ => SpecialParts_1.calls x i W) hr0 hc0 ((rowsOkB_iff l0).1 hl)
  unfold RetCount at hcon
  change countF _ l0 = _ at h
  obtain ⟨e1, e2⟩ := Prod.mk.inj h
  rw [e1, e2] at hcon
  clear e1 e2 h hr0 hl
  go_enter Try.func91, Try.ntmps91
  go_wp2_with (go_at_call 126; refine hcon.mono ?_; rintro e w' ⟨rfl, hb⟩)
  go_ret2
  exact ⟨rfl, hb⟩
 ·rw [if_neg hl] at h
  cases h
end Go.Proofs.Ytdcdkckpmkfjdaa

namespace Go.Proofs.Ytdcdkckpmkfjdaa.L
open Go.RowKit Go.Proofs.Ytdcdkckpmkfjdaa Go.Proofs.Ytdcdkckpmkfjdaa.P Go.Proofs.YtdcdkckpmkfjdaaW.PrintWords Go.Proofs.YtdcdkckpmkfjdaaW.PrintLast Go.Proofs.YtdcdkckpmkfjdaaW.PrintMore
set_option linter.unusedVariables false
set_option linter.unusedSimpArgs false
set_option maxRecDepth 100000

theorem tab_F {w : World} {ok : Nat → Prop} {A : Option Addr} {n : Nat} {L : List (List (List Int))} (h : Kd.F tabK w ok A n L) : Kd.F (Kd.slice 22 (Kd.slice 3 (Kd.int .i64))) w ok A n L := fun W' hW => tab_C (h W' hW)
end Go.Proofs.Ytdcdkckpmkfjdaa.L
