/- Texts of one chain, in build order. -/
import Derived.Test.YthlgclfhoeakgaaYBCountOrbitsCountFixedOrbitLengths17
namespace Go.Proofs.Ythlgclfhoeakgaa
open Go.RowKit Go.Proofs.YthlgclfhoeakgaaW.PrintWords Go.Proofs.YthlgclfhoeakgaaW.PrintLast Go.Proofs.YthlgclfhoeakgaaW.PrintMore
set_option linter.unusedVariables false
set_option linter.unusedSimpArgs false

def cmpI (x y : Int) : Int := if x < y then -1 else if y < x then 1 else 0
/-- The order of two lists, out of that of their elements. -/
def cmpL {α : Type} (cf : α → α → Int) : List α → List α → Int
 | [], [] => 0
 | [], _ :: _ => -1
 | _ :: _, [] => 1
 | x :: xs, y :: ys => if cf x y = 0 then cmpL cf xs ys else cf x y
theorem cmpL_step {α : Type} (cf : α → α → Int) (a b : List α) (i : Nat) (ha : i < a.length) (hb : i < b.length) : cmpL cf (a.drop i) (b.drop i) = if cf a[i] b[i] = 0 then cmpL cf (a.drop (i + 1)) (b.drop (i + 1)) else cf a[i] b[i] := by
 rw [List.drop_eq_getElem_cons ha, List.drop_eq_getElem_cons hb, cmpL]
theorem cmpL_gt {α : Type} (cf : α → α → Int) (a b : List α) (i : Nat) (ha : i < a.length) (hb : b.length ≤ i) : cmpL cf (a.drop i) (b.drop i) = 1 := by
 rw [List.drop_eq_getElem_cons ha, List.drop_eq_nil_of_le hb, cmpL]
theorem cmpL_lt {α : Type} (cf : α → α → Int) (a b : List α) (i : Nat) (ha : a.length ≤ i) (hb : i < b.length) : cmpL cf (a.drop i) (b.drop i) = -1 := by
 rw [List.drop_eq_nil_of_le ha, List.drop_eq_getElem_cons hb, cmpL]
theorem cmpL_eq {α : Type} (cf : α → α → Int) (a b : List α) (i : Nat) (ha : a.length ≤ i) (hb : b.length ≤ i) : cmpL cf (a.drop i) (b.drop i) = 0 := by
 rw [List.drop_eq_nil_of_le ha, List.drop_eq_nil_of_le hb, cmpL]
theorem cmpL_zero {α : Type} (cf : α → α → Int) (h : ∀ x y, cf x y = 0 ↔ x = y) : ∀ (a b : List α), cmpL cf a b = 0 ↔ a = b
 | [], [] => by simp [cmpL]
 | [], _ :: _ => by simp [cmpL]
 | _ :: _, [] => by simp [cmpL]
 | x :: xs, y :: ys => by
  rw [cmpL]
  by_cases e : cf x y = 0
  ·rw [if_pos e, cmpL_zero cf h xs ys, (h x y).1 e]; simp
  ·rw [if_neg e]
   constructor
   ·intro h2; exact absurd h2 e
   ·intro h2; injection h2 with h3 _; exact absurd ((h x y).2 h3) e
theorem cmpI_zero (x y : Int) : cmpI x y = 0 ↔ x = y := by
 unfold cmpI
 split
 ·constructor
  ·intro h; cases h
  ·intro h; omega
 ·split
  ·constructor
   ·intro h; cases h
   ·intro h; omega
  ·constructor
   ·intro _; omega
   ·intro _; rfl

theorem cmp_isNaN.calls' (x : Int) (w : World) : Calls Try.prog 77 #[.int .i64 x] w fun e w' => e = .returned (.bool false) ∧ w = w' := by
 have h : (x != x) = false := by simp
 go_enter Try.func77, Try.ntmps77
 go_wp2
 go_ret
 exact ⟨by first | rfl | simp, rfl⟩
theorem cmp_Compare.calls' (x y : Int) (w : World) : Calls Try.prog 63 #[.int .i64 x, .int .i64 y] w fun e w' => e = .returned (.int .i64 (cmpI x y)) ∧ w = w' := by
 have HC := Aside0.mk (show cmpI x y = if x < y then -1 else if y < x then 1 else 0 from rfl)
 by_cases h1 : x < y
 ·have HE := Aside0.mk (show cmpI x y = -1 by rw [HC.out, if_pos h1])
  clear HC
  go_enter Try.func63, Try.ntmps63
  go_wp2_with (go_at_call 77; refine (cmp_isNaN.calls' _ _).mono ?_; rintro e w1 ⟨rfl, rfl⟩)
  go_ret
  exact ⟨by rw [HE.out]; rfl, rfl⟩
 ·by_cases h2 : y < x
  ·have HE := Aside0.mk (show cmpI x y = 1 by rw [HC.out, if_neg h1, if_pos h2])
   have h3 : x > y := h2
   clear HC
   go_enter Try.func63, Try.ntmps63
   go_wp2_with (go_at_call 77; refine (cmp_isNaN.calls' _ _).mono ?_; rintro e w1 ⟨rfl, rfl⟩)
   go_ret
   exact ⟨by rw [HE.out]; rfl, rfl⟩
  ·have HE := Aside0.mk (show cmpI x y = 0 by rw [HC.out, if_neg h1, if_neg h2])
   have h3 : ¬ x > y := h2
   clear HC
   go_enter Try.func63, Try.ntmps63
   go_wp2_with (go_at_call 77; refine (cmp_isNaN.calls' _ _).mono ?_; rintro e w1 ⟨rfl, rfl⟩)
   go_ret
   exact ⟨by rw [HE.out]; rfl, rfl⟩
set_option maxHeartbeats 2000000 in
theorem slices_Compare.calls' (A0 : Option Addr) (c0 : Nat) (a : List Int) (A1 : Option Addr) (c1 : Nat) (b : List Int) (w : World) (ha : Kd.C (Kd.int .i64) w A0 a.length a) (hb : Kd.C (Kd.int .i64) w A1 b.length b) :
  Calls Try.prog 45 #[.slice A0 a.length c0, .slice A1 b.length c1] w fun e w' => e = .returned (.int .i64 (cmpL cmpI a b)) ∧ w = w' := by
 have hma := ha.2.1
 have hmb := hb.2.1
 have HA := Aside0.mk ha
 have HB := Aside0.mk hb
 clear ha hb
 have HF := Aside0.mk (show cmpL cmpI a b = cmpL cmpI (a.drop 0) (b.drop 0) from rfl)
 obtain ⟨fin, hfin⟩ : ∃ z, z = cmpL cmpI a b := ⟨_, rfl⟩
 rw [← hfin] at HF ⊢
 clear hfin
 go_enter Try.func45, Try.ntmps45
 go_wp2
 go_loopg [5, 6, 7, 8, 11] a.length (fun gg s5 s6 s7 s8 s11 wr => ∃ i : Nat, i ≤ a.length ∧ i ≤ b.length ∧ a.length - i ≤ gg ∧ s11 = .int .i64 i ∧ Aside0 (fin = cmpL cmpI (a.drop i) (b.drop i)) ∧ w = wr)
 case atStart => exact ⟨0, Nat.zero_le _, Nat.zero_le _, Nat.le_refl _, rfl, HF, rfl⟩
 case round =>
  clear HF
  obtain ⟨i, hi, hi2, hg, rfl, HF, rfl⟩ := hrel
  by_cases hlt : i < a.length
  ·have hz : (i : Int) < (a.length : Int) := by omega
   obtain ⟨ad, e0, hx⟩ := Kd.at_int HA.out i (by omega) hz
   cases e0
   by_cases hlb : i < b.length
   ·have hzb : ¬ (i : Int) ≥ (b.length : Int) := by omega
    have hzb2 : (i : Int) < (b.length : Int) := by omega
    obtain ⟨ad2, e1, hy⟩ := Kd.at_int HB.out i (by omega) (by omega)
    cases e1
    simp only [Int.toNat_natCast] at hx hy
    have hst := cmpL_step cmpI a b i hlt hlb
    have ea : a[i] = rd a i := by simp [rd, List.getD_eq_getElem?_getD, hlt]
    have eb : b[i] = rd b i := by simp [rd, List.getD_eq_getElem?_getD, hlb]
    rw [ea, eb] at hst
    obtain ⟨x, hxx⟩ : ∃ z, z = rd a i := ⟨_, rfl⟩
    obtain ⟨y, hyy⟩ : ∃ z, z = rd b i := ⟨_, rfl⟩
    rw [← hxx] at hst hx
    rw [← hyy] at hst hy
    clear hxx hyy ea eb
    have HST := Aside0.mk hst
    clear hst
    have hcm := fun W => cmp_Compare.calls' x y W
    obtain ⟨c, hc⟩ : ∃ z, z = cmpI x y := ⟨_, rfl⟩
    rw [← hc] at HST hcm
    clear hc
    by_cases hc0 : c = 0
    ·have HE := Aside0.mk (show fin = cmpL cmpI (a.drop (i + 1)) (b.drop (i + 1)) by rw [HF.out, HST.out, if_pos hc0])
     subst hc0
     clear HST
     go_wp2_with (go_at_call 63; refine (hcm _).mono ?_; rintro e w1 ⟨rfl, rfl⟩)
     go_roundg (a.length - (i + 1))
     case measure => omega
     case rel => exact ⟨i + 1, by omega, by omega, by omega, by go_num, HE, rfl⟩
    ·have HE := Aside0.mk (show fin = c by rw [HF.out, HST.out, if_neg hc0])
     have hcn : (c != 0) = true := by rw [bne_iff_ne]; exact hc0
     clear HST
     go_wp2_with (go_at_call 63; refine (hcm _).mono ?_; rintro e w1 ⟨rfl, rfl⟩)
     go_ret
     exact ⟨by rw [HE.out]; rfl, rfl⟩
   ·have hzb : (i : Int) ≥ (b.length : Int) := by omega
    have HE := Aside0.mk (show fin = 1 by rw [HF.out, cmpL_gt cmpI a b i hlt (by omega)])
    simp only [Int.toNat_natCast] at hx
    go_wp2
    go_ret
    exact ⟨by rw [HE.out]; rfl, rfl⟩
  ·have hz : ¬ (i : Int) < (a.length : Int) := by omega
   by_cases hlb : a.length < b.length
   ·have hzb : (a.length : Int) < (b.length : Int) := by omega
    have HE := Aside0.mk (show fin = -1 by rw [HF.out, cmpL_lt cmpI a b i (by omega) (by omega)])
    go_wp2
    go_ret
    exact ⟨by rw [HE.out]; rfl, rfl⟩
   ·have hzb : ¬ (a.length : Int) < (b.length : Int) := by omega
    have HE := Aside0.mk (show fin = 0 by rw [HF.out, cmpL_eq cmpI a b i (by omega) (by omega)])
    go_wp2
    go_ret
    exact ⟨by rw [HE.out]; rfl, rfl⟩

set_option maxHeartbeats 4000000 in
theorem slices_CompareFunc_rows.calls (g : Nat) (lb : Array Value) (cf : List Int → List Int → Int) (A0 : Option Addr) (c0 : Nat) (a : List (List Int)) (A1 : Option Addr) (c1 : Nat) (b : List (List Int)) (w : World)
  (eg : ∀ args w, (callFunc g args).run Try.prog w = .ok (.enter g args) w)
  (hf : ∀ (x y : List Int) (A : Option Addr) (c : Nat) (A' : Option Addr) (c' : Nat) (W : World), Kd.C (Kd.int .i64) W A x.length x → Kd.C (Kd.int .i64) W A' y.length y → Gives Try.prog g (#[.slice A x.length c, .slice A' y.length c'] ++ lb) W (.int .i64 (cf x y)))
  (ha : Kd.C (Kd.slice 3 (Kd.int .i64)) w A0 a.length a) (hb : Kd.C (Kd.slice 3 (Kd.int .i64)) w A1 b.length b) :
  Calls Try.prog 43 #[.slice A0 a.length c0, .slice A1 b.length c1, .func (.func g) #[] lb] w fun e w' => e = .returned (.int .i64 (cmpL cf a b)) ∧ Below w.heap.size w w' := by
 have hma := ha.2.1
 have hmb := hb.2.1
 have HA := Aside0.mk ha
 have HB := Aside0.mk hb
 have HFN := Aside0.mk hf
 clear ha hb hf
 have HF := Aside0.mk (show cmpL cf a b = cmpL cf (a.drop 0) (b.drop 0) from rfl)
 have HW := Aside0.mk (Below.refl w.heap.size w)
 obtain ⟨fin, hfin⟩ : ∃ z, z = cmpL cf a b := ⟨_, rfl⟩
 rw [← hfin] at HF ⊢
 clear hfin
 go_enter Try.func43, Try.ntmps43
 go_wp2
 go_loopg [7, 8, 9, 10, 13] a.length (fun gg s7 s8 s9 s10 s13 wr => ∃ i : Nat, i ≤ a.length ∧ i ≤ b.length ∧ a.length - i ≤ gg ∧ s13 = .int .i64 i ∧ Aside0 (fin = cmpL cf (a.drop i) (b.drop i)) ∧ Aside0 (Below w.heap.size w wr))
 case atStart => exact ⟨0, Nat.zero_le _, Nat.zero_le _, Nat.le_refl _, rfl, HF, HW⟩
 case round =>
  clear HF HW
  obtain ⟨i, hi, hi2, hg, rfl, HF, HW⟩ := hrel
  by_cases hlt : i < a.length
  ·have hz : (i : Int) < (a.length : Int) := by omega
   obtain ⟨ad, Ax, cx, e0, hx, _, hrx⟩ := rowsAt HA.out i hlt
   cases e0
   replace hx := pw_cell_below HW.out hx
   by_cases hlb : i < b.length
   ·have hzb : ¬ (i : Int) ≥ (b.length : Int) := by omega
    have hzb2 : (i : Int) < (b.length : Int) := by omega
    obtain ⟨ad2, Ay, cy, e1, hy, _, hry⟩ := rowsAt HB.out i hlb
    cases e1
    replace hy := pw_cell_below HW.out hy
    have hst := cmpL_step cf a b i hlt hlb
    rw [← getD_at a [] i hlt, ← getD_at b [] i hlb] at hst
    have hcm := HFN.out (a.getD i []) (b.getD i []) Ax cx Ay cy wr (Kd.C_below hrx HW.out) (Kd.C_below hry HW.out)
    obtain ⟨x, hxx⟩ : ∃ z, z = a.getD i [] := ⟨_, rfl⟩
    obtain ⟨y, hyy⟩ : ∃ z, z = b.getD i [] := ⟨_, rfl⟩
    rw [← hxx] at hst hx hcm
    rw [← hyy] at hst hy hcm
    clear hxx hyy hrx hry
    have HST := Aside0.mk hst
    clear hst
    obtain ⟨c, hc⟩ : ∃ z, z = cf x y := ⟨_, rfl⟩
    rw [← hc] at HST hcm
    clear hc
    by_cases hc0 : c = 0
    ·have HE := Aside0.mk (show fin = cmpL cf (a.drop (i + 1)) (b.drop (i + 1)) by rw [HF.out, HST.out, if_pos hc0])
     subst hc0
     clear HST
     go_wp2_with (go_at_fn g; refine hcm.mono ?_; rintro e w1 ⟨rfl, hb⟩; have HW1 := Aside0.mk (below_step HW.out hb); clear hb)
     go_roundg (a.length - (i + 1))
     case measure => omega
     case rel => exact ⟨i + 1, by omega, by omega, by omega, by go_num, HE, HW1⟩
    ·have HE := Aside0.mk (show fin = c by rw [HF.out, HST.out, if_neg hc0])
     have hcn : (c != 0) = true := by rw [bne_iff_ne]; exact hc0
     clear HST
     go_wp2_with (go_at_fn g; refine hcm.mono ?_; rintro e w1 ⟨rfl, hb⟩; have HW1 := Aside0.mk (below_step HW.out hb); clear hb)
     go_ret
     exact ⟨by rw [HE.out]; rfl, HW1.out⟩
   ·have hzb : (i : Int) ≥ (b.length : Int) := by omega
    have HE := Aside0.mk (show fin = 1 by rw [HF.out, cmpL_gt cf a b i hlt (by omega)])
    go_wp2
    go_ret
    exact ⟨by rw [HE.out]; rfl, HW.out⟩
  ·have hz : ¬ (i : Int) < (a.length : Int) := by omega
   by_cases hlb : a.length < b.length
   ·have hzb : (a.length : Int) < (b.length : Int) := by omega
    have HE := Aside0.mk (show fin = -1 by rw [HF.out, cmpL_lt cf a b i (by omega) (by omega)])
    go_wp2
    go_ret
    exact ⟨by rw [HE.out]; rfl, HW.out⟩
   ·have hzb : ¬ (a.length : Int) < (b.length : Int) := by omega
    have HE := Aside0.mk (show fin = 0 by rw [HF.out, cmpL_eq cf a b i (by omega) (by omega)])
    go_wp2
    go_ret
    exact ⟨by rw [HE.out]; rfl, HW.out⟩
/-- The order of two tables. -/
def cmpT (a b : List (List Int)) : Int := cmpL (cmpL cmpI) a b
theorem cmpT_zero (a b : List (List Int)) : cmpT a b = 0 ↔ a = b := cmpL_zero _ (cmpL_zero _ cmpI_zero) a b
theorem compareTables_1.calls (x y : List Int) (A : Option Addr) (c : Nat) (A' : Option Addr) (c' : Nat) (W : World) (hx : Kd.C (Kd.int .i64) W A x.length x) (hy : Kd.C (Kd.int .i64) W A' y.length y) :
  Gives Try.prog 44 #[.slice A x.length c, .slice A' y.length c'] W (.int .i64 (cmpL cmpI x y)) := by
 unfold Gives
 have hcm := slices_Compare.calls' A c x A' c' y W hx hy
 clear hx hy
 go_enter Try.func44, Try.ntmps44
 go_wp2_with (go_at_call 45; refine hcm.mono ?_; rintro e w1 ⟨rfl, rfl⟩)
 go_ret
 exact ⟨rfl, Below.refl _ _⟩
theorem impl_compareTables.calls' (A0 : Option Addr) (c0 : Nat) (a : List (List Int)) (A1 : Option Addr) (c1 : Nat) (b : List (List Int)) (w : World)
  (ha : Kd.C (Kd.slice 3 (Kd.int .i64)) w A0 a.length a) (hb : Kd.C (Kd.slice 3 (Kd.int .i64)) w A1 b.length b) :
  Calls Try.prog 29 #[.slice A0 a.length c0, .slice A1 b.length c1] w fun e w' => e = .returned (.int .i64 (cmpT a b)) ∧ Below w.heap.size w w' := by
 have hcm := slices_CompareFunc_rows.calls 44 #[] (cmpL cmpI) A0 c0 a A1 c1 b w (enters_of Try.func44 (by kernel_rfl) rfl) (fun x y A c A' c' W hx hy => compareTables_1.calls x y A c A' c' W hx hy) ha hb
 clear ha hb
 have HT := Aside0.mk (show cmpT a b = cmpL (cmpL cmpI) a b from rfl)
 obtain ⟨r, hr⟩ : ∃ z, z = cmpL (cmpL cmpI) a b := ⟨_, rfl⟩
 rw [← hr] at hcm HT
 clear hr
 go_enter Try.func29, Try.ntmps29
 go_wp2_with (go_at_call 43; refine hcm.mono ?_; rintro e w1 ⟨rfl, hb⟩)
 go_ret
 exact ⟨by rw [HT.out]; rfl, hb⟩
end Go.Proofs.Ythlgclfhoeakgaa

namespace Go.Proofs.Ythlgclfhoeakgaa
open Go.RowKit Go.Proofs.Ythlgclfhoeakgaa.P Go.Proofs.Ythlgclfhoeakgaa.L Go.Proofs.YthlgclfhoeakgaaW.PrintWords Go.Proofs.YthlgclfhoeakgaaW.PrintLast Go.Proofs.YthlgclfhoeakgaaW.PrintMore
set_option linter.unusedVariables false

def spec_gyNext.f (l0 : List (List Int)) : Option (List (List Int)) := if isSign l0 = true then some (flip2 l0 0 1) else none
theorem spec_gyNext.calls (A0 : Option Addr) (c0 : Nat) (l0 : List (List Int)) (r : List (List Int)) (w : World) (hr0 : Kd.C (Kd.slice 3 (Kd.int .i64)) w A0 l0.length l0) (hc0 : l0.length ≤ c0) (h : spec_gyNext.f l0 = some r) :
  Calls Try.prog 58 #[.slice A0 l0.length c0] w fun e w' => ∃ v0_ : Value, e = .returned (v0_) ∧ Kd.S (Kd.slice 3 (Kd.int .i64)) 34 w' w.heap.size (fun _ => True) v0_ r ∧ Below w.heap.size w w' := by
 unfold spec_gyNext.f at h
 by_cases hs : isSign l0 = true
 ·rw [if_pos hs] at h
  obtain rfl := Option.some.inj h
  exact spec_gyNext.callsG A0 c0 l0 w hs hr0 hc0
 ·rw [if_neg hs] at h
  cases h
def impl_gyrated.f (l0 : List (List Int)) : Option (List (List Int)) := if isSign l0 = true then some (flip2 l0 0 1) else none
theorem impl_gyrated.calls (A0 : Option Addr) (c0 : Nat) (l0 : List (List Int)) (r : List (List Int)) (w : World) (hr0 : Kd.C (Kd.slice 3 (Kd.int .i64)) w A0 l0.length l0) (hc0 : l0.length ≤ c0) (h : impl_gyrated.f l0 = some r) :
  Calls Try.prog 53 #[.slice A0 l0.length c0] w fun e w' => ∃ v0_ : Value, e = .returned (v0_) ∧ Kd.S (Kd.slice 3 (Kd.int .i64)) 34 w' w.heap.size (fun _ => True) v0_ r ∧ Below w.heap.size w w' := by
 unfold impl_gyrated.f at h
 by_cases hs : isSign l0 = true
 ·rw [if_pos hs] at h
  obtain rfl := Option.some.inj h
  exact impl_gyrated.callsG A0 c0 l0 w hs hr0 hc0
 ·rw [if_neg hs] at h
  cases h
def impl_compareTables.f (l0 : List (List Int)) (l1 : List (List Int)) : Option Int := some (cmpT l0 l1)
theorem impl_compareTables.calls (A0 : Option Addr) (c0 : Nat) (l0 : List (List Int)) (A1 : Option Addr) (c1 : Nat) (l1 : List (List Int)) (r : Int) (w : World) (hr0 : Kd.C (Kd.slice 3 (Kd.int .i64)) w A0 l0.length l0) (hc0 : l0.length ≤ c0) (hr1 : Kd.C (Kd.slice 3 (Kd.int .i64)) w A1 l1.length l1) (hc1 : l1.length ≤ c1) (h : impl_compareTables.f l0 l1 = some r) :
  Calls Try.prog 29 #[.slice A0 l0.length c0, .slice A1 l1.length c1] w fun e w' => e = .returned (.int .i64 r) ∧ Below w.heap.size w w' := by
 obtain rfl := Option.some.inj h
 exact (impl_compareTables.calls' A0 c0 l0 A1 c1 l1 w hr0 hr1).mono fun e w' h => by first | exact h | exact ⟨h.1, by rw [← h.2]; exact Below.refl _ _⟩ | exact ⟨h.1, h.2.below⟩
end Go.Proofs.Ythlgclfhoeakgaa

namespace Go.Proofs.Ythlgclfhoeakgaa.P
open Go.RowKit Go.Proofs.YthlgclfhoeakgaaW.PrintWords Go.Proofs.YthlgclfhoeakgaaW.PrintLast Go.Proofs.YthlgclfhoeakgaaW.PrintMore
attribute [local go_sem] max2_int min2_int max_two min_two max_three min_three max_four min_four   -- for this text's walks alone
set_option linter.unusedVariables false
set_option linter.unusedSimpArgs false

def spec_gyOrbit.l0 : Nat → List (List Int) → List (List (List Int)) → List (List Int) → Option ((List (List (List Int))) × Bool)
 | 0, _, _, _ => none
 | k + 1, x0, x4, x5 => (spec_heSame.f k x5 x0).bind fun t232 => (if t232 = true then (some (x4, true)) else (if (x4.length : Int) = 1000 then (some (([] : List (List (List Int))), false)) else (if x4.length < 5864062014805 then ((spec_gyNext.f x5).bind fun t236 => (spec_gyOrbit.l0 k x0 (x4 ++ [x5]) t236)) else (none))))
def spec_gyOrbit.f (k : Nat) (l0 : List (List Int)) : Option ((List (List (List Int))) × Bool) := (spec_gyOwn.f k l0).bind fun t223 => ((spec_gyNext.f l0).bind fun t229 => (spec_gyOrbit.l0 k l0 (([t223] : List (List (List Int)))) t229))
set_option maxHeartbeats 8000000 in
set_option maxRecDepth 100000 in
theorem spec_gyOrbit.calls (k : Nat) (A0 : Option Addr) (c0 : Nat) (l0 : List (List Int)) (r1 : List (List (List Int))) (r2 : Bool) (w : World) (hr0 : Kd.C (Kd.slice 3 (Kd.int .i64)) w A0 l0.length l0) (hc0 : l0.length ≤ c0) (h : spec_gyOrbit.f k l0 = some (r1, r2)) :
  Calls Try.prog 40 #[.slice A0 l0.length c0] w fun e w' => ∃ v0_ : Value, e = .returned (.tuple #[v0_, .bool r2]) ∧ Kd.N (Kd.slice 34 (Kd.slice 3 (Kd.int .i64))) 22 w' w.heap.size (fun k_ => (w.heap.size ≤ k_)) v0_ r1 ∧ Below w.heap.size w w' := by
 have HR0 := Aside0.mk hr0
 have HC0 := Aside0.mk hc0
 clear hr0 hc0
 have HB := Aside0.mk (Below.refl w.heap.size w)
 have H : ((spec_gyOwn.f k l0).bind fun t223 => ((spec_gyNext.f l0).bind fun t229 => (spec_gyOrbit.l0 k l0 (([t223] : List (List (List Int)))) t229))) = some (r1, r2) := h
 clear h
 replace H := Option.bind_eq_some_iff.mp H
 obtain ⟨t223, A20, H⟩ := H
 replace H : ((spec_gyNext.f l0).bind fun t229 => (spec_gyOrbit.l0 k l0 (([t223] : List (List (List Int)))) t229)) = some (r1, r2) := H
 have A2 := Aside0.mk A20
 clear A20
 obtain ⟨y226, hy226⟩ : ∃ y_ : List (List (List Int)), y_ = (([t223] : List (List (List Int)))) := ⟨_, rfl⟩
 replace H : ((spec_gyNext.f l0).bind fun t229 => (spec_gyOrbit.l0 k l0 y226 t229)) = some (r1, r2) := by first | (rw [hy226]; with_reducible exact H) | (have H2_ := (Option.bind_some _ _).symm.trans H; rw [hy226]; with_reducible exact H2_) | (have H2_ := (Option.bind_some _ _).symm.trans H; with_reducible exact H2_) | with_reducible exact H | (rw [hy226]; exact H) | exact H
 have Ny226 := Aside0.mk hy226
 clear hy226
 replace H := Option.bind_eq_some_iff.mp H
 obtain ⟨t229, A30, H⟩ := H
 replace H : (spec_gyOrbit.l0 k l0 y226 t229) = some (r1, r2) := H
 have A3 := Aside0.mk A30
 clear A30
 have H' := Aside0.mk H
 clear H
 go_enter Try.func40, Try.ntmps40
 go_wp2_with (first | ((with_reducible refine gate_callee (f := 57) rfl ?_); refine goesL_ (some 7) rfl rfl Try.func57 (by kernel_rfl) rfl #[.slice A0 l0.length c0] rfl (by (try simp only [List.map_toArray, List.map_cons, List.map_nil]); first | done | rfl | (simp only [List.length_drop, List.length_take]; rfl)) ?_; (with_reducible refine (spec_gyOwn.calls k _ _ l0 t223 _ ?side1 ?side2 A2.out).mono ?_); (case side1 => repeat (first | exact HR0.out | (with_reducible refine Kd.C_alloc ?_ _) | (with_reducible refine Kd.C_drewN ?_ _) | (with_reducible refine Kd.C_drew ?_))); (case side2 => exact HC0.out); rintro e w4 ⟨v224, rfl, ho0, hb⟩; refine ⟨_, rfl, ?_⟩; have n0_ := Aside0.mk (Kd.N_lower (Kd.N_mono (ok' := fun k_ => (w.heap.size ≤ k_)) (Kd.S_N (Kd.S_bound ho0)) (fun k_ hk_ => (Nat.le_trans (below_size (by repeat (first | (with_reducible first | exact HB.out | apply below_alloc | apply pw_below_drewN | apply below_drew1) | exact HB.out))) hk_.2.1))) (below_size (by repeat (first | (with_reducible first | exact HB.out | apply below_alloc | apply pw_below_drewN | apply below_drew1) | exact HB.out)))); have n1_ := Aside0.mk (below_step (by repeat (first | (with_reducible first | exact HB.out | apply below_alloc | apply pw_below_drewN | apply below_drew1) | exact HB.out)) hb); clear HB; have HO225 := n0_; have HB := n1_; clear n0_ n1_; (try clear hb); (try clear hb2); (try clear hk); (try clear hi); (try clear ho0); obtain ⟨Ao5, co5, eo5⟩ := Kd.N_slice HO225.out; subst eo5) | ((with_reducible refine gate_dst (N := 8) rfl ?_); refine Kd.N_lit (Kd.slice 34 (Kd.slice 3 (Kd.int .i64))) _ 22 ?hg (N' := 8) ?hd (xs := ([t223] : List (List (List Int)))) (inner := [.slice Ao5 t223.length co5]) (ok := (fun k_ => (w.heap.size ≤ k_))) (okp := (fun k_ => (w.heap.size ≤ k_))) ?hr ?hp (fun _ hk => hk) ((show ∀ k_, w4.heap.size ≤ k_ → (fun k_ => (w.heap.size ≤ k_)) k_ from fun k_ hk => (Nat.le_trans (below_size (by repeat (first | (with_reducible first | exact HB.out | apply below_alloc | apply pw_below_drewN | apply below_drew1) | exact HB.out))) hk)) _ (Nat.le_refl _)) (Below.refl _ _) (Nat.le_refl _) (by simp) ?_; (case hd => rfl); (case hg => rfl); (case hr => first | (go_simp; done) | (go_simp; rfl)); (case hp => exact (Reps.one (show Kd.FK (Kd.slice 34 (Kd.slice 3 (Kd.int .i64))) _ _ t223 [.slice Ao5 t223.length co5] from (Kd.FK_slice_mk (Kd.N_reads' (Kd.N_mono (ok' := (fun k_ => (w.heap.size ≤ k_))) (HO225.out) (fun k_ hk => hk))).2.1 (Kd.N_F (Kd.N_mono (ok' := (fun k_ => (w.heap.size ≤ k_))) (HO225.out) (fun k_ hk => hk))))) (Reps.none _ _))); intro v227 w6 ho7 hb hg_ hnew_; clear hg_ hnew_; (first | rw [← Ny226.out] at ho7 | (simp only [Int.reduceToNat] at ho7; rw [← Ny226.out] at ho7)); have n0_ := Aside0.mk (Kd.N_lower ho7 (below_size (by repeat (first | (with_reducible first | exact HB.out | apply below_alloc | apply pw_below_drewN | apply below_drew1) | exact HB.out)))); have n1_ := Aside0.mk (below_step (by repeat (first | (with_reducible first | exact HB.out | apply below_alloc | apply pw_below_drewN | apply below_drew1) | exact HB.out)) hb); clear HB; clear HO225; have HO228 := n0_; have HB := n1_; clear n0_ n1_; clear hb ho7) | ((with_reducible refine gate_callee (f := 58) rfl ?_); refine goesL_ (some 10) rfl rfl Try.func58 (by kernel_rfl) rfl #[.slice A0 l0.length c0] rfl (by (try simp only [List.map_toArray, List.map_cons, List.map_nil]); first | done | rfl | (simp only [List.length_drop, List.length_take]; rfl)) ?_; (with_reducible refine (spec_gyNext.calls _ _ l0 t229 _ ?side1 ?side2 A3.out).mono ?_); (case side1 => repeat (first | exact (Kd.C_below HR0.out HB.out) | (with_reducible refine Kd.C_alloc ?_ _) | (with_reducible refine Kd.C_drewN ?_ _) | (with_reducible refine Kd.C_drew ?_))); (case side2 => exact HC0.out); rintro e w8 ⟨v230, rfl, ho0, hb⟩; refine ⟨_, rfl, ?_⟩; have n0_ := Aside0.mk (Kd.N_elder' (by (with_reducible repeat (first | apply Kd.N_alloc | apply Kd.N_drewN | apply Kd.N_drew)); exact HO228.out) (by first | exact Kd.N_base ho0 | exact Kd.S_base ho0) hb); have n1_ := Aside0.mk (Kd.N_lower (Kd.N_mono (ok' := fun k_ => (w.heap.size ≤ k_) ∧ some k_ ≠ (v227 : Value).ownBlock) (Kd.S_N (Kd.S_bound ho0)) (fun k_ hk_ => ⟨(Nat.le_trans (below_size (by repeat (first | (with_reducible first | exact HB.out | apply below_alloc | apply pw_below_drewN | apply below_drew1) | exact HB.out))) hk_.2.1), (Kd.fresh' (Kd.N_lt (by (with_reducible repeat (first | apply Kd.N_alloc | apply Kd.N_drewN | apply Kd.N_drew)); exact HO228.out)) k_ hk_.2.1)⟩)) (below_size (by repeat (first | (with_reducible first | exact HB.out | apply below_alloc | apply pw_below_drewN | apply below_drew1) | exact HB.out)))); have n2_ := Aside0.mk (below_step (by repeat (first | (with_reducible first | exact HB.out | apply below_alloc | apply pw_below_drewN | apply below_drew1) | exact HB.out)) hb); clear HO228; clear HB; have HO228 := n0_; have HO231 := n1_; have HB := n2_; clear n0_ n1_ n2_; (try clear hb); (try clear hb2); (try clear hk); (try clear hi); (try clear ho0)))
 go_loopg [4, 5] k (fun kq v4 v5 w' => ∃ (x4_1 : List (List (List Int))) (x5_1 : List (List Int)), Aside0 (spec_gyOrbit.l0 kq l0 x4_1 x5_1 = some (r1, r2)) ∧ Aside0 (kq ≤ k) ∧ Aside0 (Kd.N (Kd.slice 34 (Kd.slice 3 (Kd.int .i64))) 22 w' w.heap.size (fun k_ => (w.heap.size ≤ k_) ∧ some k_ ≠ (v5 : Value).ownBlock) v4 x4_1) ∧ Aside0 (Kd.N (Kd.slice 3 (Kd.int .i64)) 34 w' w.heap.size (fun k_ => (w.heap.size ≤ k_) ∧ some k_ ≠ (v4 : Value).ownBlock) v5 x5_1) ∧ Aside0 (Below w.heap.size w w'))
 case atStart => exact ⟨(y226), (t229), H', ⟨Nat.le_refl _⟩, ⟨by (with_reducible repeat (first | apply Kd.N_alloc | apply Kd.N_drewN | apply Kd.N_drew)); exact HO228.out⟩, ⟨by (with_reducible repeat (first | apply Kd.N_alloc | apply Kd.N_drewN | apply Kd.N_drew)); exact HO231.out⟩, ⟨by repeat (first | (with_reducible first | exact HB.out | apply below_alloc | apply pw_below_drewN | apply below_drew1) | exact HB.out)⟩⟩
 case round =>
  clear H'
  try clear p2
  try clear c4
  try clear c5
  obtain ⟨x4_1, x5_1, HA, HK1, HO_4, HO_5, HB⟩ := hrel
  cases gk with
  | zero => exact absurd HA.out (by simp [spec_gyOrbit.l0])
  | succ k1 =>
   have H := HA.out
   clear HA
   simp only [spec_gyOrbit.l0] at H
   replace H := Option.bind_eq_some_iff.mp H
   obtain ⟨t232, A90, H⟩ := H
   replace H : (if t232 = true then (some (x4_1, true)) else (if (x4_1.length : Int) = 1000 then (some (([] : List (List (List Int))), false)) else (if x4_1.length < 5864062014805 then ((spec_gyNext.f x5_1).bind fun t236 => (spec_gyOrbit.l0 k1 l0 (x4_1 ++ [x5_1]) t236)) else (none)))) = some (r1, r2) := H
   have A9 := Aside0.mk A90
   clear A90
   by_cases c10 : t232 = true
   ·subst c10
    have H1 : (some (x4_1, true)) = some (r1, r2) := by rw [if_pos rfl] at H; exact H
    clear H
    have H := H1
    clear H1
    simp only [Option.some.injEq, Prod.mk.injEq] at H
    obtain ⟨rfl, rfl⟩ := H
    obtain ⟨Ao11, co11, eo11⟩ := Kd.N_slice HO_5.out
    subst eo11
    go_wp2_with (first | ((with_reducible refine gate_callee (f := 47) rfl ?_); refine goesL_ (some 13) rfl rfl Try.func47 (by kernel_rfl) rfl #[.slice Ao11 x5_1.length co11, .slice A0 l0.length c0] rfl (by (try simp only [List.map_toArray, List.map_cons, List.map_nil]); first | done | rfl | (simp only [List.length_drop, List.length_take]; rfl)) ?_; (with_reducible refine (spec_heSame.calls k1 _ _ x5_1 _ _ l0 true _ ?side1 ?side2 ?side3 ?side4 A9.out).mono ?_); (case side1 => repeat (first | exact (Kd.N_reads' HO_5.out).2.2 | (with_reducible refine Kd.C_alloc ?_ _) | (with_reducible refine Kd.C_drewN ?_ _) | (with_reducible refine Kd.C_drew ?_))); (case side2 => exact (Kd.N_reads' HO_5.out).2.1); (case side3 => repeat (first | exact (Kd.C_below HR0.out HB.out) | (with_reducible refine Kd.C_alloc ?_ _) | (with_reducible refine Kd.C_drewN ?_ _) | (with_reducible refine Kd.C_drew ?_))); (case side4 => exact HC0.out); rintro e w' ⟨rfl, ⟨nd, rfl⟩⟩; refine ⟨_, rfl, ?_⟩))
    go_ret2
    exact ⟨_, by first | rfl | (simp [errW_none, errW_some] <;> rfl) | (simp [*, errW_none, errW_some] <;> rfl), by (with_reducible repeat (first | apply Kd.N_alloc | apply Kd.N_drewN | apply Kd.N_drew)); exact Kd.N_mono HO_4.out (fun _ hk => hk.1), by repeat (first | (with_reducible first | exact HB.out | apply below_alloc | apply pw_below_drewN | apply below_drew1) | exact HB.out)⟩
   ·replace c10 := Bool.eq_false_iff.mpr c10
    subst c10
    have H1 : (if (x4_1.length : Int) = 1000 then (some (([] : List (List (List Int))), false)) else (if x4_1.length < 5864062014805 then ((spec_gyNext.f x5_1).bind fun t236 => (spec_gyOrbit.l0 k1 l0 (x4_1 ++ [x5_1]) t236)) else (none))) = some (r1, r2) := by rw [if_neg (show ¬ (false = true) by decide)] at H; exact H
    clear H
    have H := H1
    clear H1
    by_cases c12 : (x4_1.length : Int) = 1000
    ·rw [if_pos c12] at H
     have c12b0 : ((x4_1.length : Int) == 1000) = true := beq_iff_eq.mpr c12
     have c12b1 : ((x4_1.length : Int) != 1000) = false := bne_eq_false_iff_eq.mpr c12
     clear c12
     simp only [Option.some.injEq, Prod.mk.injEq] at H
     obtain ⟨rfl, rfl⟩ := H
     obtain ⟨Ao13, co13, eo13⟩ := Kd.N_slice HO_5.out
     subst eo13
     go_wp2_with (first | ((with_reducible refine gate_callee (f := 47) rfl ?_); refine goesL_ (some 13) rfl rfl Try.func47 (by kernel_rfl) rfl #[.slice Ao13 x5_1.length co13, .slice A0 l0.length c0] rfl (by (try simp only [List.map_toArray, List.map_cons, List.map_nil]); first | done | rfl | (simp only [List.length_drop, List.length_take]; rfl)) ?_; (with_reducible refine (spec_heSame.calls k1 _ _ x5_1 _ _ l0 false _ ?side1 ?side2 ?side3 ?side4 A9.out).mono ?_); (case side1 => repeat (first | exact (Kd.N_reads' HO_5.out).2.2 | (with_reducible refine Kd.C_alloc ?_ _) | (with_reducible refine Kd.C_drewN ?_ _) | (with_reducible refine Kd.C_drew ?_))); (case side2 => exact (Kd.N_reads' HO_5.out).2.1); (case side3 => repeat (first | exact (Kd.C_below HR0.out HB.out) | (with_reducible refine Kd.C_alloc ?_ _) | (with_reducible refine Kd.C_drewN ?_ _) | (with_reducible refine Kd.C_drew ?_))); (case side4 => exact HC0.out); rintro e w' ⟨rfl, ⟨nd, rfl⟩⟩; refine ⟨_, rfl, ?_⟩; obtain ⟨Ao14, co14, eo14⟩ := Kd.N_slice HO_4.out; subst eo14))
     go_ret2
     exact ⟨_, by first | rfl | (simp [errW_none, errW_some] <;> rfl) | (simp [*, errW_none, errW_some] <;> rfl), by first | exact Kd.R_nil _ _ _ _ _ | exact Kd.N_nil _ _ _ _ _ | exact Kd.V_nil _ _ _ _ _ | exact Kd.Q_nil _ _ _ _ _ | exact Kd.S_nil _ _ _ _ _, by repeat (first | (with_reducible first | exact HB.out | apply below_alloc | apply pw_below_drewN | apply below_drew1) | exact HB.out)⟩
    ·rw [if_neg c12] at H
     have c12b0 : ((x4_1.length : Int) == 1000) = false := beq_eq_false_iff_ne.mpr c12
     have c12b1 : ((x4_1.length : Int) != 1000) = true := bne_iff_ne.mpr c12
     by_cases c15 : x4_1.length < 5864062014805
     ·rw [if_pos c15] at H
      have LMc15 := Aside0.mk c15
      clear c15
      obtain ⟨y233, hy233⟩ : ∃ y_ : List (List (List Int)), y_ = (x4_1 ++ [x5_1]) := ⟨_, rfl⟩
      replace H : ((spec_gyNext.f x5_1).bind fun t236 => (spec_gyOrbit.l0 k1 l0 y233 t236)) = some (r1, r2) := by first | (rw [hy233]; with_reducible exact H) | (have H2_ := (Option.bind_some _ _).symm.trans H; rw [hy233]; with_reducible exact H2_) | (have H2_ := (Option.bind_some _ _).symm.trans H; with_reducible exact H2_) | with_reducible exact H | (rw [hy233]; exact H) | exact H
      have Ny233 := Aside0.mk hy233
      clear hy233
      replace H := Option.bind_eq_some_iff.mp H
      obtain ⟨t236, A160, H⟩ := H
      replace H : (spec_gyOrbit.l0 k1 l0 y233 t236) = some (r1, r2) := H
      have A16 := Aside0.mk A160
      clear A160
      have H' := Aside0.mk H
      clear H
      obtain ⟨Ao17, co17, eo17⟩ := Kd.N_slice HO_5.out
      subst eo17
      go_wp2_with (first | ((with_reducible refine gate_callee (f := 47) rfl ?_); refine goesL_ (some 13) rfl rfl Try.func47 (by kernel_rfl) rfl #[.slice Ao17 x5_1.length co17, .slice A0 l0.length c0] rfl (by (try simp only [List.map_toArray, List.map_cons, List.map_nil]); first | done | rfl | (simp only [List.length_drop, List.length_take]; rfl)) ?_; (with_reducible refine (spec_heSame.calls k1 _ _ x5_1 _ _ l0 false _ ?side1 ?side2 ?side3 ?side4 A9.out).mono ?_); (case side1 => repeat (first | exact (Kd.N_reads' HO_5.out).2.2 | (with_reducible refine Kd.C_alloc ?_ _) | (with_reducible refine Kd.C_drewN ?_ _) | (with_reducible refine Kd.C_drew ?_))); (case side2 => exact (Kd.N_reads' HO_5.out).2.1); (case side3 => repeat (first | exact (Kd.C_below HR0.out HB.out) | (with_reducible refine Kd.C_alloc ?_ _) | (with_reducible refine Kd.C_drewN ?_ _) | (with_reducible refine Kd.C_drew ?_))); (case side4 => exact HC0.out); rintro e w' ⟨rfl, ⟨nd, rfl⟩⟩; refine ⟨_, rfl, ?_⟩; obtain ⟨Ao18, co18, eo18⟩ := Kd.N_slice HO_4.out; subst eo18) | ((with_reducible refine gate_builtin (b := .append) (xs := #[.tmp 20, .tmp 22]) rfl ?_); at_builtin; refine Kd.N_append (Kd.slice 34 (Kd.slice 3 (Kd.int .i64))) (w0 := w) w.heap.size rfl (.tmp 20) (.tmp 22) 39 22 (.slice none 0 0) 24 rfl Try.underlying39 info22 rfl (by decide) (by omega) (.slice Ao18 x4_1.length co18) x4_1 x5_1 [.slice Ao17 x5_1.length co17] (fun k_ => (w.heap.size ≤ k_)) (fun k_ => ((fun k_ => (w.heap.size ≤ k_))) k_ ∧ some k_ ≠ (.slice Ao18 x4_1.length co18 : Value).ownBlock) rfl rfl ?aP (fun _ hk => hk) ?aF ?aO ?aB ?aS ?aL ?_; (case aP => exact (Kd.FK_slice_mk (Kd.N_reads' (Kd.N_mono (ok' := (fun k_ => ((fun k_ => (w.heap.size ≤ k_))) k_ ∧ some k_ ≠ (.slice Ao18 x4_1.length co18 : Value).ownBlock)) (HO_5.out) (fun k_ hk => ⟨hk.1, hk.2⟩))).2.1 (Kd.N_F (Kd.N_mono (ok' := (fun k_ => ((fun k_ => (w.heap.size ≤ k_))) k_ ∧ some k_ ≠ (.slice Ao18 x4_1.length co18 : Value).ownBlock)) (HO_5.out) (fun k_ hk => ⟨hk.1, hk.2⟩))))); (case aB => exact (by repeat (first | (with_reducible first | exact HB.out | apply below_alloc | apply pw_below_drewN | apply below_drew1) | exact HB.out))); (case aF => exact (fun k_ hk => (Nat.le_trans (below_size (by repeat (first | (with_reducible first | exact HB.out | apply below_alloc | apply pw_below_drewN | apply below_drew1) | exact HB.out))) hk))); (case aO => exact (by (with_reducible repeat (first | apply Kd.N_alloc | apply Kd.N_drewN | apply Kd.N_drew)); exact Kd.N_mono HO_4.out (fun _ hk => hk.1))); (case aS => exact (below_size (by repeat (first | (with_reducible first | exact HB.out | apply below_alloc | apply pw_below_drewN | apply below_drew1) | exact HB.out)))); (case aL => have := LMc15.out; omega); intro v234 w19 ho hb hg hat; rw [← Ny233.out] at ho; have n0_ := Aside0.mk (hb); have n1_ := Aside0.mk (ho); have n5_ := Aside0.mk (show Kd.N (Kd.slice 3 (Kd.int .i64)) 34 w19 w.heap.size (fun k_ => (w.heap.size ≤ k_) ∧ some k_ ≠ (.slice Ao18 x4_1.length co18 : Value).ownBlock) (.slice Ao17 x5_1.length co17) x5_1 from Kd.N_grown (ok := fun k_ => (w.heap.size ≤ k_) ∧ some k_ ≠ (.slice Ao18 x4_1.length co18 : Value).ownBlock) (by (with_reducible repeat (first | apply Kd.N_alloc | apply Kd.N_drewN | apply Kd.N_drew)); exact HO_5.out) hg (fun _ hk => hk.2)); clear HB; clear HO_4; clear HO_5; have HO_5 := n5_; clear n5_; have HB := n0_; have HO235 := n1_; clear n0_ n1_; clear ho hb hg hat) | ((with_reducible refine gate_callee (f := 58) rfl ?_); refine goesL_ (some 16) rfl rfl Try.func58 (by kernel_rfl) rfl #[.slice Ao17 x5_1.length co17] rfl (by (try simp only [List.map_toArray, List.map_cons, List.map_nil]); first | done | rfl | (simp only [List.length_drop, List.length_take]; rfl)) ?_; (with_reducible refine (spec_gyNext.calls _ _ x5_1 t236 _ ?side1 ?side2 A16.out).mono ?_); (case side1 => repeat (first | exact (Kd.N_reads' HO_5.out).2.2 | (with_reducible refine Kd.C_alloc ?_ _) | (with_reducible refine Kd.C_drewN ?_ _) | (with_reducible refine Kd.C_drew ?_))); (case side2 => exact (Kd.N_reads' HO_5.out).2.1); rintro e w20 ⟨v237, rfl, ho0, hb⟩; refine ⟨_, rfl, ?_⟩; have n0_ := Aside0.mk (Kd.N_elder' (by (with_reducible repeat (first | apply Kd.N_alloc | apply Kd.N_drewN | apply Kd.N_drew)); exact HO235.out) (by first | exact Kd.N_base ho0 | exact Kd.S_base ho0) hb); have n1_ := Aside0.mk (Kd.N_lower (Kd.N_mono (ok' := fun k_ => (w.heap.size ≤ k_) ∧ some k_ ≠ (v234 : Value).ownBlock) (Kd.S_N (Kd.S_bound ho0)) (fun k_ hk_ => ⟨(Nat.le_trans (below_size (by repeat (first | (with_reducible first | exact HB.out | apply below_alloc | apply pw_below_drewN | apply below_drew1) | exact HB.out))) hk_.2.1), (Kd.fresh' (Kd.N_lt (by (with_reducible repeat (first | apply Kd.N_alloc | apply Kd.N_drewN | apply Kd.N_drew)); exact HO235.out)) k_ hk_.2.1)⟩)) (below_size (by repeat (first | (with_reducible first | exact HB.out | apply below_alloc | apply pw_below_drewN | apply below_drew1) | exact HB.out)))); have n2_ := Aside0.mk (below_step (by repeat (first | (with_reducible first | exact HB.out | apply below_alloc | apply pw_below_drewN | apply below_drew1) | exact HB.out)) hb); clear HO235; clear HB; have HO235 := n0_; have HO238 := n1_; have HB := n2_; clear n0_ n1_ n2_; (try clear hb); (try clear hb2); (try clear hk); (try clear hi); (try clear ho0)))
      go_roundg k1
      case measure => have := HK1.out; omega
      case rel => exact ⟨(y233), (t236), H', ⟨by have := HK1.out; omega⟩, ⟨by (with_reducible repeat (first | apply Kd.N_alloc | apply Kd.N_drewN | apply Kd.N_drew)); exact HO235.out⟩, ⟨by (with_reducible repeat (first | apply Kd.N_alloc | apply Kd.N_drewN | apply Kd.N_drew)); exact HO238.out⟩, ⟨by repeat (first | (with_reducible first | exact HB.out | apply below_alloc | apply pw_below_drewN | apply below_drew1) | exact HB.out)⟩⟩
     ·rw [if_neg c15] at H
      exact absurd H (by simp)

end Go.Proofs.Ythlgclfhoeakgaa.P
