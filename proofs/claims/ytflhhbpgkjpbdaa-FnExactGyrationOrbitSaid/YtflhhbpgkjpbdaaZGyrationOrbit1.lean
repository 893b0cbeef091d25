/- Givens of the print for the orbits. -/
import Derived.Test.YtflhhbpgkjpbdaaZGyrationOrbit0
import Derived.Test.YtflhhbpgkjpbdaaZGyrationOrbit31
namespace Go.Proofs.Ytflhhbpgkjpbdaa
open Go.RowKit Go.Proofs.YtflhhbpgkjpbdaaW.PrintWords Go.Proofs.YtflhhbpgkjpbdaaW.PrintLast Go.Proofs.YtflhhbpgkjpbdaaW.PrintMore
set_option linter.unusedVariables false
set_option linter.unusedSimpArgs false

def cmpI (x y : Int) : Int := if x < y then -1 else if y < x then 1 else 0
/-- The order of two lists, out of that of their elements. -/
def cmpL {α : Type} (cf : α → α → Int) : List α → List α → Int
 | [], [] => 0
 | [], _ :: _ => -1
 | _ :: _, [] => 1
 | x :: xs, y :: ys => if cf x y = 0 then cmpL cf xs ys else cf x y
theorem cmpL_step {α : Type} (cf : α → α → Int) (a b : List α) (i : Nat) (ha : i < a.length) (hb : i < b.length) : cmpL cf (a.drop i) (b.drop i) = if cf a[i] b[i] = 0 then cmpL cf (a.drop (i + 1)) (b.drop (i + 1)) else cf a[i] b[i] := by
 rw [List.drop_eq_getElem_cons ha, List.drop_eq_getElem_cons hb, cmpL]
theorem cmpL_gt {α : Type} (cf : α → α → Int) (a b : List α) (i : Nat) (ha : i < a.length) (hb : b.length ≤ i) : cmpL cf (a.drop i) (b.drop i) = 1 := by
 rw [List.drop_eq_getElem_cons ha, List.drop_eq_nil_of_le hb, cmpL]
theorem cmpL_lt {α : Type} (cf : α → α → Int) (a b : List α) (i : Nat) (ha : a.length ≤ i) (hb : i < b.length) : cmpL cf (a.drop i) (b.drop i) = -1 := by
 rw [List.drop_eq_nil_of_le ha, List.drop_eq_getElem_cons hb, cmpL]
theorem cmpL_eq {α : Type} (cf : α → α → Int) (a b : List α) (i : Nat) (ha : a.length ≤ i) (hb : b.length ≤ i) : cmpL cf (a.drop i) (b.drop i) = 0 := by
 rw [List.drop_eq_nil_of_le ha, List.drop_eq_nil_of_le hb, cmpL]
theorem cmpL_zero {α : Type} (cf : α → α → Int) (h : ∀ x y, cf x y = 0 ↔ x = y) : ∀ (a b : List α), cmpL cf a b = 0 ↔ a = b
 | [], [] => by simp [cmpL]
 | [], _ :: _ => by simp [cmpL]
 | _ :: _, [] => by simp [cmpL]
 | x :: xs, y :: ys => by
  rw [cmpL]
  by_cases e : cf x y = 0
  ·rw [if_pos e, cmpL_zero cf h xs ys, (h x y).1 e]; simp
  ·rw [if_neg e]
   constructor
   ·intro h2; exact absurd h2 e
   ·intro h2; injection h2 with h3 _; exact absurd ((h x y).2 h3) e
theorem cmpI_zero (x y : Int) : cmpI x y = 0 ↔ x = y := by
 unfold cmpI
 split
 ·constructor
  ·intro h; cases h
  ·intro h; omega
 ·split
  ·constructor
   ·intro h; cases h
   ·intro h; omega
  ·constructor
   ·intro _; omega
   ·intro _; rfl

theorem cmp_isNaN.calls' (x : Int) (w : World) : Calls Try.prog 143 #[.int .i64 x] w fun e w' => e = .returned (.bool false) ∧ w = w' := by
 have h : (x != x) = false := by simp
 go_enter Try.func143, Try.ntmps143
 go_wp2
 go_ret
 exact ⟨by first | rfl | simp, rfl⟩
theorem cmp_Compare.calls' (x y : Int) (w : World) : Calls Try.prog 136 #[.int .i64 x, .int .i64 y] w fun e w' => e = .returned (.int .i64 (cmpI x y)) ∧ w = w' := by
 have HC := Aside0.mk (show cmpI x y = if x < y then -1 else if y < x then 1 else 0 from rfl)
 by_cases h1 : x < y
 ·have HE := Aside0.mk (show cmpI x y = -1 by rw [HC.out, if_pos h1])
  clear HC
  go_enter Try.func136, Try.ntmps136
  go_wp2_with (go_at_call 143; refine (cmp_isNaN.calls' _ _).mono ?_; rintro e w1 ⟨rfl, rfl⟩)
  go_ret
  exact ⟨by rw [HE.out]; rfl, rfl⟩
 ·by_cases h2 : y < x
  ·have HE := Aside0.mk (show cmpI x y = 1 by rw [HC.out, if_neg h1, if_pos h2])
   have h3 : x > y := h2
   clear HC
   go_enter Try.func136, Try.ntmps136
   go_wp2_with (go_at_call 143; refine (cmp_isNaN.calls' _ _).mono ?_; rintro e w1 ⟨rfl, rfl⟩)
   go_ret
   exact ⟨by rw [HE.out]; rfl, rfl⟩
  ·have HE := Aside0.mk (show cmpI x y = 0 by rw [HC.out, if_neg h1, if_neg h2])
   have h3 : ¬ x > y := h2
   clear HC
   go_enter Try.func136, Try.ntmps136
   go_wp2_with (go_at_call 143; refine (cmp_isNaN.calls' _ _).mono ?_; rintro e w1 ⟨rfl, rfl⟩)
   go_ret
   exact ⟨by rw [HE.out]; rfl, rfl⟩
set_option maxHeartbeats 2000000 in
theorem slices_Compare.calls' (A0 : Option Addr) (c0 : Nat) (a : List Int) (A1 : Option Addr) (c1 : Nat) (b : List Int) (w : World) (ha : Kd.C (Kd.int .i64) w A0 a.length a) (hb : Kd.C (Kd.int .i64) w A1 b.length b) :
  Calls Try.prog 125 #[.slice A0 a.length c0, .slice A1 b.length c1] w fun e w' => e = .returned (.int .i64 (cmpL cmpI a b)) ∧ w = w' := by
 have hma := ha.2.1
 have hmb := hb.2.1
 have HA := Aside0.mk ha
 have HB := Aside0.mk hb
 clear ha hb
 have HF := Aside0.mk (show cmpL cmpI a b = cmpL cmpI (a.drop 0) (b.drop 0) from rfl)
 obtain ⟨fin, hfin⟩ : ∃ z, z = cmpL cmpI a b := ⟨_, rfl⟩
 rw [← hfin] at HF ⊢
 clear hfin
 go_enter Try.func125, Try.ntmps125
 go_wp2
 go_loopg [5, 6, 7, 8, 11] a.length (fun gg s5 s6 s7 s8 s11 wr => ∃ i : Nat, i ≤ a.length ∧ i ≤ b.length ∧ a.length - i ≤ gg ∧ s11 = .int .i64 i ∧ Aside0 (fin = cmpL cmpI (a.drop i) (b.drop i)) ∧ w = wr)
 case atStart => exact ⟨0, Nat.zero_le _, Nat.zero_le _, Nat.le_refl _, rfl, HF, rfl⟩
 case round =>
  clear HF
  obtain ⟨i, hi, hi2, hg, rfl, HF, rfl⟩ := hrel
  by_cases hlt : i < a.length
  ·have hz : (i : Int) < (a.length : Int) := by omega
   obtain ⟨ad, e0, hx⟩ := Kd.at_int HA.out i (by omega) hz
   cases e0
   by_cases hlb : i < b.length
   ·have hzb : ¬ (i : Int) ≥ (b.length : Int) := by omega
    have hzb2 : (i : Int) < (b.length : Int) := by omega
    obtain ⟨ad2, e1, hy⟩ := Kd.at_int HB.out i (by omega) (by omega)
    cases e1
    simp only [Int.toNat_natCast] at hx hy
    have hst := cmpL_step cmpI a b i hlt hlb
    have ea : a[i] = rd a i := by simp [rd, List.getD_eq_getElem?_getD, hlt]
    have eb : b[i] = rd b i := by simp [rd, List.getD_eq_getElem?_getD, hlb]
    rw [ea, eb] at hst
    obtain ⟨x, hxx⟩ : ∃ z, z = rd a i := ⟨_, rfl⟩
    obtain ⟨y, hyy⟩ : ∃ z, z = rd b i := ⟨_, rfl⟩
    rw [← hxx] at hst hx
    rw [← hyy] at hst hy
    clear hxx hyy ea eb
    have HST := Aside0.mk hst
    clear hst
    have hcm := fun W => cmp_Compare.calls' x y W
    obtain ⟨c, hc⟩ : ∃ z, z = cmpI x y := ⟨_, rfl⟩
    rw [← hc] at HST hcm
    clear hc
    by_cases hc0 : c = 0
    ·have HE := Aside0.mk (show fin = cmpL cmpI (a.drop (i + 1)) (b.drop (i + 1)) by rw [HF.out, HST.out, if_pos hc0])
     subst hc0
     clear HST
     go_wp2_with (go_at_call 136; refine (hcm _).mono ?_; rintro e w1 ⟨rfl, rfl⟩)
     go_roundg (a.length - (i + 1))
     case measure => omega
     case rel => exact ⟨i + 1, by omega, by omega, by omega, by go_num, HE, rfl⟩
    ·have HE := Aside0.mk (show fin = c by rw [HF.out, HST.out, if_neg hc0])
     have hcn : (c != 0) = true := by rw [bne_iff_ne]; exact hc0
     clear HST
     go_wp2_with (go_at_call 136; refine (hcm _).mono ?_; rintro e w1 ⟨rfl, rfl⟩)
     go_ret
     exact ⟨by rw [HE.out]; rfl, rfl⟩
   ·have hzb : (i : Int) ≥ (b.length : Int) := by omega
    have HE := Aside0.mk (show fin = 1 by rw [HF.out, cmpL_gt cmpI a b i hlt (by omega)])
    simp only [Int.toNat_natCast] at hx
    go_wp2
    go_ret
    exact ⟨by rw [HE.out]; rfl, rfl⟩
  ·have hz : ¬ (i : Int) < (a.length : Int) := by omega
   by_cases hlb : a.length < b.length
   ·have hzb : (a.length : Int) < (b.length : Int) := by omega
    have HE := Aside0.mk (show fin = -1 by rw [HF.out, cmpL_lt cmpI a b i (by omega) (by omega)])
    go_wp2
    go_ret
    exact ⟨by rw [HE.out]; rfl, rfl⟩
   ·have hzb : ¬ (a.length : Int) < (b.length : Int) := by omega
    have HE := Aside0.mk (show fin = 0 by rw [HF.out, cmpL_eq cmpI a b i (by omega) (by omega)])
    go_wp2
    go_ret
    exact ⟨by rw [HE.out]; rfl, rfl⟩

set_option maxHeartbeats 4000000 in
theorem slices_CompareFunc_rows.calls (g : Nat) (lb : Array Value) (cf : List Int → List Int → Int) (A0 : Option Addr) (c0 : Nat) (a : List (List Int)) (A1 : Option Addr) (c1 : Nat) (b : List (List Int)) (w : World)
  (eg : ∀ args w, (callFunc g args).run Try.prog w = .ok (.enter g args) w)
  (hf : ∀ (x y : List Int) (A : Option Addr) (c : Nat) (A' : Option Addr) (c' : Nat) (W : World), Kd.C (Kd.int .i64) W A x.length x → Kd.C (Kd.int .i64) W A' y.length y → Gives Try.prog g (#[.slice A x.length c, .slice A' y.length c'] ++ lb) W (.int .i64 (cf x y)))
  (ha : Kd.C (Kd.slice 3 (Kd.int .i64)) w A0 a.length a) (hb : Kd.C (Kd.slice 3 (Kd.int .i64)) w A1 b.length b) :
  Calls Try.prog 123 #[.slice A0 a.length c0, .slice A1 b.length c1, .func (.func g) #[] lb] w fun e w' => e = .returned (.int .i64 (cmpL cf a b)) ∧ Below w.heap.size w w' := by
 have hma := ha.2.1
 have hmb := hb.2.1
 have HA := Aside0.mk ha
 have HB := Aside0.mk hb
 have HFN := Aside0.mk hf
 clear ha hb hf
 have HF := Aside0.mk (show cmpL cf a b = cmpL cf (a.drop 0) (b.drop 0) from rfl)
 have HW := Aside0.mk (Below.refl w.heap.size w)
 obtain ⟨fin, hfin⟩ : ∃ z, z = cmpL cf a b := ⟨_, rfl⟩
 rw [← hfin] at HF ⊢
 clear hfin
 go_enter Try.func123, Try.ntmps123
 go_wp2
 go_loopg [7, 8, 9, 10, 13] a.length (fun gg s7 s8 s9 s10 s13 wr => ∃ i : Nat, i ≤ a.length ∧ i ≤ b.length ∧ a.length - i ≤ gg ∧ s13 = .int .i64 i ∧ Aside0 (fin = cmpL cf (a.drop i) (b.drop i)) ∧ Aside0 (Below w.heap.size w wr))
 case atStart => exact ⟨0, Nat.zero_le _, Nat.zero_le _, Nat.le_refl _, rfl, HF, HW⟩
 case round =>
  clear HF HW
  obtain ⟨i, hi, hi2, hg, rfl, HF, HW⟩ := hrel
  by_cases hlt : i < a.length
  ·have hz : (i : Int) < (a.length : Int) := by omega
   obtain ⟨ad, Ax, cx, e0, hx, _, hrx⟩ := rowsAt HA.out i hlt
   cases e0
   replace hx := pw_cell_below HW.out hx
   by_cases hlb : i < b.length
   ·have hzb : ¬ (i : Int) ≥ (b.length : Int) := by omega
    have hzb2 : (i : Int) < (b.length : Int) := by omega
    obtain ⟨ad2, Ay, cy, e1, hy, _, hry⟩ := rowsAt HB.out i hlb
    cases e1
    replace hy := pw_cell_below HW.out hy
    have hst := cmpL_step cf a b i hlt hlb
    rw [← getD_at a [] i hlt, ← getD_at b [] i hlb] at hst
    have hcm := HFN.out (a.getD i []) (b.getD i []) Ax cx Ay cy wr (Kd.C_below hrx HW.out) (Kd.C_below hry HW.out)
    obtain ⟨x, hxx⟩ : ∃ z, z = a.getD i [] := ⟨_, rfl⟩
    obtain ⟨y, hyy⟩ : ∃ z, z = b.getD i [] := ⟨_, rfl⟩
    rw [← hxx] at hst hx hcm
    rw [← hyy] at hst hy hcm
    clear hxx hyy hrx hry
    have HST := Aside0.mk hst
    clear hst
    obtain ⟨c, hc⟩ : ∃ z, z = cf x y := ⟨_, rfl⟩
    rw [← hc] at HST hcm
    clear hc
    by_cases hc0 : c = 0
    ·have HE := Aside0.mk (show fin = cmpL cf (a.drop (i + 1)) (b.drop (i + 1)) by rw [HF.out, HST.out, if_pos hc0])
     subst hc0
     clear HST
     go_wp2_with (go_at_fn g; refine hcm.mono ?_; rintro e w1 ⟨rfl, hb⟩; have HW1 := Aside0.mk (below_step HW.out hb); clear hb)
     go_roundg (a.length - (i + 1))
     case measure => omega
     case rel => exact ⟨i + 1, by omega, by omega, by omega, by go_num, HE, HW1⟩
    ·have HE := Aside0.mk (show fin = c by rw [HF.out, HST.out, if_neg hc0])
     have hcn : (c != 0) = true := by rw [bne_iff_ne]; exact hc0
     clear HST
     go_wp2_with (go_at_fn g; refine hcm.mono ?_; rintro e w1 ⟨rfl, hb⟩; have HW1 := Aside0.mk (below_step HW.out hb); clear hb)
     go_ret
     exact ⟨by rw [HE.out]; rfl, HW1.out⟩
   ·have hzb : (i : Int) ≥ (b.length : Int) := by omega
    have HE := Aside0.mk (show fin = 1 by rw [HF.out, cmpL_gt cf a b i hlt (by omega)])
    go_wp2
    go_ret
    exact ⟨by rw [HE.out]; rfl, HW.out⟩
  ·have hz : ¬ (i : Int) < (a.length : Int) := by omega
   by_cases hlb : a.length < b.length
   ·have hzb : (a.length : Int) < (b.length : Int) := by omega
    have HE := Aside0.mk (show fin = -1 by rw [HF.out, cmpL_lt cf a b i (by omega) (by omega)])
    go_wp2
    go_ret
    exact ⟨by rw [HE.out]; rfl, HW.out⟩
   ·have hzb : ¬ (a.length : Int) < (b.length : Int) := by omega
    have HE := Aside0.mk (show fin = 0 by rw [HF.out, cmpL_eq cf a b i (by omega) (by omega)])
    go_wp2
    go_ret
    exact ⟨by rw [HE.out]; rfl, HW.out⟩
/-- The order of two tables. -/
def cmpT (a b : List (List Int)) : Int := cmpL (cmpL cmpI) a b
theorem cmpT_zero (a b : List (List Int)) : cmpT a b = 0 ↔ a = b := cmpL_zero _ (cmpL_zero _ cmpI_zero) a b
theorem compareTables_1.calls (x y : List Int) (A : Option Addr) (c : Nat) (A' : Option Addr) (c' : Nat) (W : World) (hx : Kd.C (Kd.int .i64) W A x.length x) (hy : Kd.C (Kd.int .i64) W A' y.length y) :
  Gives Try.prog 124 #[.slice A x.length c, .slice A' y.length c'] W (.int .i64 (cmpL cmpI x y)) := by
 unfold Gives
 have hcm := slices_Compare.calls' A c x A' c' y W hx hy
 clear hx hy
 go_enter Try.func124, Try.ntmps124
 go_wp2_with (go_at_call 125; refine hcm.mono ?_; rintro e w1 ⟨rfl, rfl⟩)
 go_ret
 exact ⟨rfl, Below.refl _ _⟩
theorem impl_compareTables.calls' (A0 : Option Addr) (c0 : Nat) (a : List (List Int)) (A1 : Option Addr) (c1 : Nat) (b : List (List Int)) (w : World)
  (ha : Kd.C (Kd.slice 3 (Kd.int .i64)) w A0 a.length a) (hb : Kd.C (Kd.slice 3 (Kd.int .i64)) w A1 b.length b) :
  Calls Try.prog 88 #[.slice A0 a.length c0, .slice A1 b.length c1] w fun e w' => e = .returned (.int .i64 (cmpT a b)) ∧ Below w.heap.size w w' := by
 have hcm := slices_CompareFunc_rows.calls 124 #[] (cmpL cmpI) A0 c0 a A1 c1 b w (enters_of Try.func124 (by kernel_rfl) rfl) (fun x y A c A' c' W hx hy => compareTables_1.calls x y A c A' c' W hx hy) ha hb
 clear ha hb
 have HT := Aside0.mk (show cmpT a b = cmpL (cmpL cmpI) a b from rfl)
 obtain ⟨r, hr⟩ : ∃ z, z = cmpL (cmpL cmpI) a b := ⟨_, rfl⟩
 rw [← hr] at hcm HT
 clear hr
 go_enter Try.func88, Try.ntmps88
 go_wp2_with (go_at_call 123; refine hcm.mono ?_; rintro e w1 ⟨rfl, hb⟩)
 go_ret
 exact ⟨by rw [HT.out]; rfl, hb⟩
end Go.Proofs.Ytflhhbpgkjpbdaa

/- Givens of the print for the orbits. -/
namespace Go.Proofs.Ytflhhbpgkjpbdaa
open Go.RowKit Go.Proofs.Ytflhhbpgkjpbdaa.P Go.Proofs.Ytflhhbpgkjpbdaa.L Go.Proofs.YtflhhbpgkjpbdaaW.PrintWords Go.Proofs.YtflhhbpgkjpbdaaW.PrintLast Go.Proofs.YtflhhbpgkjpbdaaW.PrintMore
set_option linter.unusedVariables false

def spec_gyNext.f (l0 : List (List Int)) : Option (List (List Int)) := if isSign l0 = true then some (flip2 l0 0 1) else none
theorem spec_gyNext.calls (A0 : Option Addr) (c0 : Nat) (l0 : List (List Int)) (r : List (List Int)) (w : World) (hr0 : Kd.C (Kd.slice 3 (Kd.int .i64)) w A0 l0.length l0) (hc0 : l0.length ≤ c0) (h : spec_gyNext.f l0 = some r) :
  Calls Try.prog 77 #[.slice A0 l0.length c0] w fun e w' => ∃ v0_ : Value, e = .returned (v0_) ∧ Kd.S (Kd.slice 3 (Kd.int .i64)) 43 w' w.heap.size (fun _ => True) v0_ r ∧ Below w.heap.size w w' := by
 unfold spec_gyNext.f at h
 by_cases hs : isSign l0 = true
 ·rw [if_pos hs] at h
  obtain rfl := Option.some.inj h
  exact spec_gyNext.callsG A0 c0 l0 w hs hr0 hc0
 ·rw [if_neg hs] at h
  cases h
def impl_gyrated.f (l0 : List (List Int)) : Option (List (List Int)) := if isSign l0 = true then some (flip2 l0 0 1) else none
theorem impl_gyrated.calls (A0 : Option Addr) (c0 : Nat) (l0 : List (List Int)) (r : List (List Int)) (w : World) (hr0 : Kd.C (Kd.slice 3 (Kd.int .i64)) w A0 l0.length l0) (hc0 : l0.length ≤ c0) (h : impl_gyrated.f l0 = some r) :
  Calls Try.prog 78 #[.slice A0 l0.length c0] w fun e w' => ∃ v0_ : Value, e = .returned (v0_) ∧ Kd.S (Kd.slice 3 (Kd.int .i64)) 43 w' w.heap.size (fun _ => True) v0_ r ∧ Below w.heap.size w w' := by
 unfold impl_gyrated.f at h
 by_cases hs : isSign l0 = true
 ·rw [if_pos hs] at h
  obtain rfl := Option.some.inj h
  exact impl_gyrated.callsG A0 c0 l0 w hs hr0 hc0
 ·rw [if_neg hs] at h
  cases h
def impl_compareTables.f (l0 : List (List Int)) (l1 : List (List Int)) : Option Int := some (cmpT l0 l1)
theorem impl_compareTables.calls (A0 : Option Addr) (c0 : Nat) (l0 : List (List Int)) (A1 : Option Addr) (c1 : Nat) (l1 : List (List Int)) (r : Int) (w : World) (hr0 : Kd.C (Kd.slice 3 (Kd.int .i64)) w A0 l0.length l0) (hc0 : l0.length ≤ c0) (hr1 : Kd.C (Kd.slice 3 (Kd.int .i64)) w A1 l1.length l1) (hc1 : l1.length ≤ c1) (h : impl_compareTables.f l0 l1 = some r) :
  Calls Try.prog 88 #[.slice A0 l0.length c0, .slice A1 l1.length c1] w fun e w' => e = .returned (.int .i64 r) ∧ Below w.heap.size w w' := by
 obtain rfl := Option.some.inj h
 exact (impl_compareTables.calls' A0 c0 l0 A1 c1 l1 w hr0 hr1).mono fun e w' h => by first | exact h | exact ⟨h.1, by rw [← h.2]; exact Below.refl _ _⟩ | exact ⟨h.1, h.2.below⟩
end Go.Proofs.Ytflhhbpgkjpbdaa
