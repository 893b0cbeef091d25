import Derived.Test.YtbopbgjmfpbfhaaProg
import Derived.Below
import Derived.Deep.Draws
import Derived.Deep.AppendLies
import Derived.Maps.AppendAt
import Derived.OwnWalk
import Derived.Laws.BytesArg
import Derived.Laws.MakeOwn
import Derived.Laws.OwnMore
import Derived.Deep.OwnRows
import Derived.Tactics
import Derived.Lib.ConvBytes
import Derived.Laws.Slices
import Derived.WalkKit
import Derived.KernelRfl
import Derived.RowKit3
import Derived.Deep.LoopGhost
import Derived.Deep.QuietTactic
import Derived.BigQuiet
import Derived.WideLaws
import Derived.Deep.DeepCutAuto
import Derived.Deep.CutBlock
import Derived.Deep.RegionHeld3
import Derived.Laws.Rows
import Derived.Lib.AppendStr
import Derived.ArgAppend
import Derived.Laws.IdiomCopy
import Derived.OrdersHeld
import Derived.Laws.BitsLemmas
import Derived.RowKit
import Derived.Shelf.Abstract
import Derived.Test.YtbopbgjmfpbfhaaWMore
import Derived.Test.YtbopbgjmfpbfhaaWTab
import Derived.Test.YtbopbgjmfpbfhaaWFour
import Derived.Test.YtbopbgjmfpbfhaaLd
namespace Go.Proofs.Ytbopbgjmfpbfhaa
open Go.RowKit Go.Proofs.Ytbopbgjmfpbfhaa.P Go.Proofs.Ytbopbgjmfpbfhaa.L Go.Proofs.YtbopbgjmfpbfhaaW.PrintWords Go.Proofs.YtbopbgjmfpbfhaaW.PrintLast Go.Proofs.YtbopbgjmfpbfhaaW.PrintMore
set_option linter.unusedVariables false
set_option linter.unusedSimpArgs false

theorem impl_isDescending.calls' (A0 : Option Addr) (c0 : Nat) (l0 : List (List Int)) (n : Int) (w : World) (hr0 : Kd.C (Kd.slice 3 (Kd.int .i64)) w A0 l0.length l0) (hc0 : l0.length ≤ c0) (hl : rowsOk l0) :
    Calls Try.prog 58 #[.slice A0 l0.length c0, .int .i64 n] w fun e w' => e = .returned (.bool (isDesc n l0)) ∧ Below w.heap.size w w' := by
  obtain ⟨k, hk⟩ := (impl_isDesc_ev n l0 hl).rounds
  exact impl_isDescending.calls k A0 c0 l0 n (isDesc n l0) w hr0 hc0 hk

theorem goodFrom_row (n : Int) (l : List (List Int)) (h : goodFrom n l 0 = true) (i : Nat) (hi : i < l.length) : rowGood n (l.getD i []) = true := by
  have := List.all_eq_true.1 h i (by rw [List.mem_range'_1]; omega)
  simp only [Bool.and_eq_true] at this
  exact this.1
def bitI (b : Bool) : Int := if b then 1 else 0
theorem impl_bit.calls' (b : Bool) (w : World) :
    Calls Try.prog 91 #[.bool b] w fun e w' => e = .returned (.int .i64 (bitI b)) ∧ w = w' := by
  cases b with
  | true =>
    go_enter Try.func91, Try.ntmps91
    go_wp2
    go_ret
    exact ⟨rfl, rfl⟩
  | false =>
    go_enter Try.func91, Try.ntmps91
    go_wp2
    go_ret
    exact ⟨rfl, rfl⟩

/-- How many of the first j numbers are such. -/
def cnt (p : Int → Int → Bool) (r : List Int) : Nat → Int
  | 0 => 0
  | j + 1 => cnt p r j + bitI (p (rd r j) j)
def cntAll (p : Int → Int → Bool) (l : List (List Int)) : Nat → Int
  | 0 => 0
  | i + 1 => cntAll p l i + cnt p (l.getD i []) (l.getD i []).length
theorem bitI_le (b : Bool) : 0 ≤ bitI b ∧ bitI b ≤ 1 := by cases b <;> decide
theorem cnt_le (p : Int → Int → Bool) (r : List Int) : ∀ j : Nat, 0 ≤ cnt p r j ∧ cnt p r j ≤ j := by
  intro j
  induction j with
  | zero => exact ⟨Int.le_refl _, Int.le_refl _⟩
  | succ j ih => have := bitI_le (p (rd r j) j); rw [cnt]; omega
theorem cntAll_le (p : Int → Int → Bool) (l : List (List Int)) (hb : ∀ i, i < l.length → (l.getD i []).length ≤ 100) : ∀ i : Nat, i ≤ l.length → 0 ≤ cntAll p l i ∧ cntAll p l i ≤ 100 * i := by
  intro i
  induction i with
  | zero => intro _; exact ⟨Int.le_refl _, Int.le_refl _⟩
  | succ i ih =>
    intro hi
    have := ih (by omega)
    have := cnt_le p (l.getD i []) (l.getD i []).length
    have := hb i (by omega)
    rw [cntAll]; omega

def RetCount (w : World) (l : List (List Int)) (p : Int → Int → Bool) (e : Ending) (w' : World) : Prop :=
  e = .returned (.tuple #[.int .i64 (if isDesc 6 l = true then cntAll p l l.length else 0), .bool (isDesc 6 l)]) ∧ Below w.heap.size w w'
set_option maxHeartbeats 4000000 in
theorem impl_countParts.callsG (g : Nat) (lb : Array Value) (p : Int → Int → Bool) (A0 : Option Addr) (c0 : Nat) (l0 : List (List Int)) (w : World)
    (eg : ∀ args w, (callFunc g args).run Try.prog w = .ok (.enter g args) w)
    (hp : ∀ (x i : Int) (W : World), Below w.heap.size w W → Gives Try.prog g (#[.int .i64 x, .int .i64 i] ++ lb) W (.bool (p x i)))
    (hr0 : Kd.C (Kd.slice 3 (Kd.int .i64)) w A0 l0.length l0) (hc0 : l0.length ≤ c0) (hl : rowsOk l0) :
    Calls Try.prog 66 #[.slice A0 l0.length c0, .func (.func g) #[] lb] w (RetCount w l0 p) := by
  have hl1 := hl.1
  have HL := Aside0.mk hl
  have HR0 := Aside0.mk hr0
  have HP := Aside0.mk hp
  have hdesc := impl_isDescending.calls' A0 c0 l0 6 w hr0 hc0 hl
  clear hr0 hp hl
  cases hd : isDesc 6 l0 with
  | false =>
    rw [hd] at hdesc
    have HD := Aside0.mk hd
    clear hd
    go_enter Try.func66, Try.ntmps66
    go_wp2_with (go_at_call 58; refine hdesc.mono ?_; rintro e w' ⟨rfl, hb⟩)
    go_ret2
    exact ⟨by rw [HD.out]; rfl, hb⟩
  | true =>
    rw [hd] at hdesc
    have HD := Aside0.mk hd
    have hb100 : ∀ i, i < l0.length → (l0.getD i []).length ≤ 100 := fun i hi => by have := (rowGood_facts (goodFrom_row 6 l0 hd i hi)).2.1; omega
    have hlen : l0.length ≤ 6 := by have := isDesc_short 6 l0 (by omega) hd; omega
    have HB100 := Aside0.mk hb100
    clear hd hb100
    go_enter Try.func66, Try.ntmps66
    go_wp2_with (go_at_call 58; refine hdesc.mono ?_; rintro e w1 ⟨rfl, hb⟩; have HB1 := Aside0.mk hb; clear hb)
    go_loopg [6, 8, 9, 10, 16] l0.length (fun gg s6 s8 s9 s10 s16 wr => ∃ i : Nat, i ≤ l0.length ∧ l0.length - i ≤ gg ∧ s16 = .int .i64 i ∧ s6 = .int .i64 (cntAll p l0 i) ∧ Aside0 (Below w.heap.size w wr))
    case atStart => exact ⟨0, Nat.zero_le _, Nat.le_refl _, rfl, rfl, HB1⟩
    case round =>
      clear HB1
      obtain ⟨i, hi, hg, rfl, rfl, HB⟩ := hrel
      by_cases hlt : i < l0.length
      · have hlz : (i : Int) < (l0.length : Int) := by omega
        obtain ⟨ad, A1, c1, e0, hx, hc1, hrow⟩ := rowsAt HR0.out i hlt
        cases e0
        replace hx := pw_cell_below HB.out hx
        have hca := cntAll_le p l0 HB100.out i (by omega)
        have hcs : cntAll p l0 (i + 1) = cntAll p l0 i + cnt p (l0.getD i []) (l0.getD i []).length := rfl
        have hb1 := HB100.out i hlt
        obtain ⟨row, hrw⟩ : ∃ r, r = l0.getD i [] := ⟨_, rfl⟩
        rw [← hrw] at hx hrow hcs hb1
        obtain ⟨ca, hcae⟩ : ∃ c, c = cntAll p l0 i := ⟨_, rfl⟩
        rw [← hcae] at hca hcs ⊢
        have HCS := Aside0.mk hcs
        have HROW := Aside0.mk hrow
        clear hrw hrow hc1 hcs hcae
        go_wp2
        go_loopg [6, 9, 10, 22] row.length (fun gj s6 s9 s10 s22 wr2 => ∃ j : Nat, j ≤ row.length ∧ row.length - j ≤ gj ∧ s22 = .int .i64 j ∧ s6 = .int .i64 (ca + cnt p row j) ∧ Aside0 (Below w.heap.size w wr2))
        case atStart => exact ⟨0, Nat.zero_le _, Nat.le_refl _, rfl, by simp [cnt], HB⟩
        case round =>
          clear hx HB
          obtain ⟨j, hj, hgj, rfl, rfl, HB⟩ := hrel
          have hcn := cnt_le p row j
          by_cases hjt : j < row.length
          · have hjz : (j : Int) < (row.length : Int) := by omega
            obtain ⟨ad2, e2, hx2⟩ := Kd.at_int HROW.out j (by omega) hjz
            cases e2
            replace hx2 := pw_cell_below HB.out hx2
            simp only [Int.toNat_natCast] at hx2
            have hbt := bitI_le (p (rd row j) j)
            have hst : ca + cnt p row (j + 1) = ca + cnt p row j + bitI (p (rd row j) j) := by rw [cnt]; omega
            have HST := Aside0.mk hst
            clear hst
            have hcall := fun W hb => HP.out (rd row j) j W hb
            go_wp2_with (first | (go_at_fn g; refine (hcall _ HB.out).mono ?_; rintro e w' ⟨rfl, hb⟩; have HB2 := Aside0.mk (below_step HB.out hb); clear hb) | (go_at_call 91; refine (impl_bit.calls' _ _).mono ?_; rintro e w' ⟨rfl, rfl⟩))
            go_roundg (row.length - (j + 1))
            case measure => omega
            case rel => exact ⟨j + 1, by omega, by omega, by go_num, by rw [HST.out], HB2⟩
          · have hjz : ¬ (j : Int) < (row.length : Int) := by omega
            have hjr : j = row.length := by omega
            subst hjr
            go_wp2
            go_roundg (l0.length - (i + 1))
            case measure => omega
            case rel => exact ⟨i + 1, by omega, by omega, by go_num, by rw [HCS.out], HB⟩
      · have hlz : ¬ (i : Int) < (l0.length : Int) := by omega
        have hil : i = l0.length := by omega
        subst hil
        go_wp2
        go_ret2
        exact ⟨by rw [HD.out]; rfl, HB.out⟩


theorem PartsOf_1.calls (x i : Int) (W : World) : Gives Try.prog 67 #[.int .i64 x, .int .i64 i] W (.bool true) := by
  unfold Gives
  go_enter Try.func67, Try.ntmps67
  go_wp2
  go_ret
  exact ⟨rfl, Below.refl _ _⟩
theorem SpecialParts_1.calls (x i : Int) (W : World) : Gives Try.prog 69 #[.int .i64 x, .int .i64 i] W (.bool (decide (x ≤ i))) := by
  unfold Gives
  go_enter Try.func69, Try.ntmps69
  go_wp2
  go_ret
  exact ⟨rfl, Below.refl _ _⟩
theorem PartsEqual_1.calls (x i n : Int) (b : Nat) (W : World) (h : W.cell? ⟨b, 0, none⟩ = some (.int .i64 n)) : Gives Try.prog 71 #[.int .i64 x, .int .i64 i, .pointer (some ⟨b, 0, none⟩)] W (.bool (x == n)) := by
  unfold Gives
  go_enter Try.func71, Try.ntmps71
  go_wp2
  go_ret
  exact ⟨rfl, Below.refl _ _⟩

def rowsOkB (l : List (List Int)) : Bool := decide (l.length ≤ 11728124029610) && (l.all fun r => decide (r.length ≤ 17592186044416))
theorem rowsOkB_iff (l : List (List Int)) : rowsOkB l = true ↔ rowsOk l := by
  simp only [rowsOkB, Bool.and_eq_true, decide_eq_true_eq, List.all_eq_true, rowsOk]
def countF (p : Int → Int → Bool) (l : List (List Int)) : Int × Bool := (if isDesc 6 l = true then cntAll p l l.length else 0, isDesc 6 l)

def impl_PartsOf.f (l0 : List (List Int)) : Option (Int × Bool) := if rowsOkB l0 = true then some (countF (fun _ _ => true) l0) else none
theorem impl_PartsOf.calls (A0 : Option Addr) (c0 : Nat) (l0 : List (List Int)) (r1 : Int) (r2 : Bool) (w : World) (hr0 : Kd.C (Kd.slice 3 (Kd.int .i64)) w A0 l0.length l0) (hc0 : l0.length ≤ c0) (h : impl_PartsOf.f l0 = some (r1, r2)) :
    Calls Try.prog 28 #[.slice A0 l0.length c0] w fun e w' => e = .returned (.tuple #[.int .i64 r1, .bool r2]) ∧ Below w.heap.size w w' := by
  unfold impl_PartsOf.f at h
  by_cases hl : rowsOkB l0 = true
  · rw [if_pos hl] at h
    have h := Option.some.inj h
    have hcon := impl_countParts.callsG 67 #[] (fun _ _ => true) A0 c0 l0 w (enters_of Try.func67 (by kernel_rfl) rfl) (fun x i W _ => PartsOf_1.calls x i W) hr0 hc0 ((rowsOkB_iff l0).1 hl)
    unfold RetCount at hcon
    change countF _ l0 = _ at h
    obtain ⟨e1, e2⟩ := Prod.mk.inj h
    rw [e1, e2] at hcon
    clear e1 e2 h hr0 hl
    go_enter Try.func28, Try.ntmps28
    go_wp2_with (go_at_call 66; refine hcon.mono ?_; rintro e w' ⟨rfl, hb⟩)
    go_ret2
    exact ⟨rfl, hb⟩
  · rw [if_neg hl] at h
    cases h
def impl_SpecialParts.f (l0 : List (List Int)) : Option (Int × Bool) := if rowsOkB l0 = true then some (countF (fun x i => decide (x ≤ i)) l0) else none
theorem impl_SpecialParts.calls (A0 : Option Addr) (c0 : Nat) (l0 : List (List Int)) (r1 : Int) (r2 : Bool) (w : World) (hr0 : Kd.C (Kd.slice 3 (Kd.int .i64)) w A0 l0.length l0) (hc0 : l0.length ≤ c0) (h : impl_SpecialParts.f l0 = some (r1, r2)) :
    Calls Try.prog 30 #[.slice A0 l0.length c0] w fun e w' => e = .returned (.tuple #[.int .i64 r1, .bool r2]) ∧ Below w.heap.size w w' := by
  unfold impl_SpecialParts.f at h
  by_cases hl : rowsOkB l0 = true
  · rw [if_pos hl] at h
    have h := Option.some.inj h
    have hcon := impl_countParts.callsG 69 #[] (fun x i => decide (x ≤ i)) A0 c0 l0 w (enters_of Try.func69 (by kernel_rfl) rfl) (fun x i W _ => SpecialParts_1.calls x i W) hr0 hc0 ((rowsOkB_iff l0).1 hl)
    unfold RetCount at hcon
    change countF _ l0 = _ at h
    obtain ⟨e1, e2⟩ := Prod.mk.inj h
    rw [e1, e2] at hcon
    clear e1 e2 h hr0 hl
    go_enter Try.func30, Try.ntmps30
    go_wp2_with (go_at_call 66; refine hcon.mono ?_; rintro e w' ⟨rfl, hb⟩)
    go_ret2
    exact ⟨rfl, hb⟩
  · rw [if_neg hl] at h
    cases h
def impl_PartsEqual.f (l0 : List (List Int)) (a1 : Int) : Option (Int × Bool) := if rowsOkB l0 = true then some (if inB a1 2 6 = true then countF (fun x _ => x == a1) l0 else (0, false)) else none
theorem impl_PartsEqual.calls (A0 : Option Addr) (c0 : Nat) (l0 : List (List Int)) (a1 : Int) (r1 : Int) (r2 : Bool) (w : World) (hr0 : Kd.C (Kd.slice 3 (Kd.int .i64)) w A0 l0.length l0) (hc0 : l0.length ≤ c0) (h : impl_PartsEqual.f l0 a1 = some (r1, r2)) :
    Calls Try.prog 32 #[.slice A0 l0.length c0, .int .i64 a1] w fun e w' => e = .returned (.tuple #[.int .i64 r1, .bool r2]) ∧ Below w.heap.size w w' := by
  unfold impl_PartsEqual.f at h
  by_cases hl : rowsOkB l0 = true
  · rw [if_pos hl] at h
    have h := Option.some.inj h
    have hB1 : Below w.heap.size w (w.alloc (.cells #[.int .i64 a1] 3)) := below_alloc (Below.refl _ _) _
    have hx1 : (w.alloc (.cells #[.int .i64 a1] 3)).cell? ⟨w.heap.size, 0, none⟩ = some (.int .i64 a1) := by rw [World.cell?_alloc_at _ _ _ _ rfl]; rfl
    have hcon : ∀ W, Below (w.alloc (.cells #[.int .i64 a1] 3)).heap.size (w.alloc (.cells #[.int .i64 a1] 3)) W → Calls Try.prog 66 #[.slice A0 l0.length c0, .func (.func 71) #[] #[.pointer (some ⟨w.heap.size, 0, none⟩)]] W (RetCount W l0 (fun x _ => x == a1)) := fun W hW =>
      impl_countParts.callsG 71 #[.pointer (some ⟨w.heap.size, 0, none⟩)] (fun x _ => x == a1) A0 c0 l0 W (enters_of Try.func71 (by kernel_rfl) rfl) (fun x i W' hb => PartsEqual_1.calls x i a1 _ W' (pw_cell_below hb (pw_cell_below hW hx1))) (Kd.C_below (Kd.C_below hr0 hB1) hW) hc0 ((rowsOkB_iff l0).1 hl)
    have HB := Aside0.mk hB1
    cases hi : inB a1 2 6 with
    | false =>
      rw [hi, if_neg (by simp)] at h
      obtain ⟨rfl, rfl⟩ := Prod.mk.inj h
      clear hcon hr0 hl h hB1
      have hw := fun W => impl_within.calls a1 2 6 false W (by unfold impl_within.f; rw [hi])
      clear hi
      go_enter Try.func32, Try.ntmps32
      go_wp2_with (go_at_call 61; refine (hw _).mono ?_; rintro e w' ⟨rfl, hd⟩; have hb := hd.below; clear hd)
      go_ret2
      exact ⟨rfl, below_step HB.out hb⟩
    | true =>
      rw [hi, if_pos rfl] at h
      change countF _ l0 = _ at h
      obtain ⟨e1, e2⟩ := Prod.mk.inj h
      have hcon2 : ∀ W, Below (w.alloc (.cells #[.int .i64 a1] 3)).heap.size (w.alloc (.cells #[.int .i64 a1] 3)) W → Calls Try.prog 66 #[.slice A0 l0.length c0, .func (.func 71) #[] #[.pointer (some ⟨w.heap.size, 0, none⟩)]] W fun e w' => e = .returned (.tuple #[.int .i64 r1, .bool r2]) ∧ Below W.heap.size W w' := fun W hW => by
        have := hcon W hW
        unfold RetCount at this
        rw [e1, e2] at this
        exact this
      clear hcon hr0 hl h hB1 e1 e2
      have hw := fun W => impl_within.calls a1 2 6 true W (by unfold impl_within.f; rw [hi])
      clear hi
      go_enter Try.func32, Try.ntmps32
      go_wp2_with (first | (go_at_call 61; refine (hw _).mono ?_; rintro e w' ⟨rfl, hd⟩; have HB2 := Aside0.mk hd.below; clear hd) | (go_at_call 66; refine (hcon2 _ HB2.out).mono ?_; rintro e w2 ⟨rfl, hb⟩))
      go_ret2
      exact ⟨rfl, below_step (below_step HB.out HB2.out) hb⟩
  · rw [if_neg hl] at h
    cases h
end Go.Proofs.Ytbopbgjmfpbfhaa
