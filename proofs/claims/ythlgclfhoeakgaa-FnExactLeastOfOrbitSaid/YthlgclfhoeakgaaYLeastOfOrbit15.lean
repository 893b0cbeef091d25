/- Texts of one chain, in build order. -/
import Derived.Test.YthlgclfhoeakgaaYLeastOfOrbit14
namespace Go.Proofs.Ythlgclfhoeakgaa
open Go.RowKit Go.Proofs.YthlgclfhoeakgaaW.PrintWords Go.Proofs.YthlgclfhoeakgaaW.PrintLast Go.Proofs.YthlgclfhoeakgaaW.PrintMore
set_option linter.unusedVariables false
set_option linter.unusedSimpArgs false

def cmpI (x y : Int) : Int := if x < y then -1 else if y < x then 1 else 0
/-- The order of two lists, out of that of their elements. -/
def cmpL {α : Type} (cf : α → α → Int) : List α → List α → Int
 | [], [] => 0
 | [], _ :: _ => -1
 | _ :: _, [] => 1
 | x :: xs, y :: ys => if cf x y = 0 then cmpL cf xs ys else cf x y
theorem cmpL_step {α : Type} (cf : α → α → Int) (a b : List α) (i : Nat) (ha : i < a.length) (hb : i < b.length) : cmpL cf (a.drop i) (b.drop i) = if cf a[i] b[i] = 0 then cmpL cf (a.drop (i + 1)) (b.drop (i + 1)) else cf a[i] b[i] := by
 rw [List.drop_eq_getElem_cons ha, List.drop_eq_getElem_cons hb, cmpL]
theorem cmpL_gt {α : Type} (cf : α → α → Int) (a b : List α) (i : Nat) (ha : i < a.length) (hb : b.length ≤ i) : cmpL cf (a.drop i) (b.drop i) = 1 := by
 rw [List.drop_eq_getElem_cons ha, List.drop_eq_nil_of_le hb, cmpL]
theorem cmpL_lt {α : Type} (cf : α → α → Int) (a b : List α) (i : Nat) (ha : a.length ≤ i) (hb : i < b.length) : cmpL cf (a.drop i) (b.drop i) = -1 := by
 rw [List.drop_eq_nil_of_le ha, List.drop_eq_getElem_cons hb, cmpL]
theorem cmpL_eq {α : Type} (cf : α → α → Int) (a b : List α) (i : Nat) (ha : a.length ≤ i) (hb : b.length ≤ i) : cmpL cf (a.drop i) (b.drop i) = 0 := by
 rw [List.drop_eq_nil_of_le ha, List.drop_eq_nil_of_le hb, cmpL]
theorem cmpL_zero {α : Type} (cf : α → α → Int) (h : ∀ x y, cf x y = 0 ↔ x = y) : ∀ (a b : List α), cmpL cf a b = 0 ↔ a = b
 | [], [] => by simp [cmpL]
 | [], _ :: _ => by simp [cmpL]
 | _ :: _, [] => by simp [cmpL]
 | x :: xs, y :: ys => by
  rw [cmpL]
  by_cases e : cf x y = 0
  ·rw [if_pos e, cmpL_zero cf h xs ys, (h x y).1 e]; simp
  ·rw [if_neg e]
   constructor
   ·intro h2; exact absurd h2 e
   ·intro h2; injection h2 with h3 _; exact absurd ((h x y).2 h3) e
theorem cmpI_zero (x y : Int) : cmpI x y = 0 ↔ x = y := by
 unfold cmpI
 split
 ·constructor
  ·intro h; cases h
  ·intro h; omega
 ·split
  ·constructor
   ·intro h; cases h
   ·intro h; omega
  ·constructor
   ·intro _; omega
   ·intro _; rfl

theorem cmp_isNaN.calls' (x : Int) (w : World) : Calls Try.prog 77 #[.int .i64 x] w fun e w' => e = .returned (.bool false) ∧ w = w' := by
 have h : (x != x) = false := by simp
 go_enter Try.func77, Try.ntmps77
 go_wp2
 go_ret
 exact ⟨by first | rfl | simp, rfl⟩
theorem cmp_Compare.calls' (x y : Int) (w : World) : Calls Try.prog 63 #[.int .i64 x, .int .i64 y] w fun e w' => e = .returned (.int .i64 (cmpI x y)) ∧ w = w' := by
 have HC := Aside0.mk (show cmpI x y = if x < y then -1 else if y < x then 1 else 0 from rfl)
 by_cases h1 : x < y
 ·have HE := Aside0.mk (show cmpI x y = -1 by rw [HC.out, if_pos h1])
  clear HC
  go_enter Try.func63, Try.ntmps63
  go_wp2_with (go_at_call 77; refine (cmp_isNaN.calls' _ _).mono ?_; rintro e w1 ⟨rfl, rfl⟩)
  go_ret
  exact ⟨by rw [HE.out]; rfl, rfl⟩
 ·by_cases h2 : y < x
  ·have HE := Aside0.mk (show cmpI x y = 1 by rw [HC.out, if_neg h1, if_pos h2])
   have h3 : x > y := h2
   clear HC
   go_enter Try.func63, Try.ntmps63
   go_wp2_with (go_at_call 77; refine (cmp_isNaN.calls' _ _).mono ?_; rintro e w1 ⟨rfl, rfl⟩)
   go_ret
   exact ⟨by rw [HE.out]; rfl, rfl⟩
  ·have HE := Aside0.mk (show cmpI x y = 0 by rw [HC.out, if_neg h1, if_neg h2])
   have h3 : ¬ x > y := h2
   clear HC
   go_enter Try.func63, Try.ntmps63
   go_wp2_with (go_at_call 77; refine (cmp_isNaN.calls' _ _).mono ?_; rintro e w1 ⟨rfl, rfl⟩)
   go_ret
   exact ⟨by rw [HE.out]; rfl, rfl⟩
set_option maxHeartbeats 2000000 in
theorem slices_Compare.calls' (A0 : Option Addr) (c0 : Nat) (a : List Int) (A1 : Option Addr) (c1 : Nat) (b : List Int) (w : World) (ha : Kd.C (Kd.int .i64) w A0 a.length a) (hb : Kd.C (Kd.int .i64) w A1 b.length b) :
  Calls Try.prog 45 #[.slice A0 a.length c0, .slice A1 b.length c1] w fun e w' => e = .returned (.int .i64 (cmpL cmpI a b)) ∧ w = w' := by
 have hma := ha.2.1
 have hmb := hb.2.1
 have HA := Aside0.mk ha
 have HB := Aside0.mk hb
 clear ha hb
 have HF := Aside0.mk (show cmpL cmpI a b = cmpL cmpI (a.drop 0) (b.drop 0) from rfl)
 obtain ⟨fin, hfin⟩ : ∃ z, z = cmpL cmpI a b := ⟨_, rfl⟩
 rw [← hfin] at HF ⊢
 clear hfin
 go_enter Try.func45, Try.ntmps45
 go_wp2
 go_loopg [5, 6, 7, 8, 11] a.length (fun gg s5 s6 s7 s8 s11 wr => ∃ i : Nat, i ≤ a.length ∧ i ≤ b.length ∧ a.length - i ≤ gg ∧ s11 = .int .i64 i ∧ Aside0 (fin = cmpL cmpI (a.drop i) (b.drop i)) ∧ w = wr)
 case atStart => exact ⟨0, Nat.zero_le _, Nat.zero_le _, Nat.le_refl _, rfl, HF, rfl⟩
 case round =>
  clear HF
  obtain ⟨i, hi, hi2, hg, rfl, HF, rfl⟩ := hrel
  by_cases hlt : i < a.length
  ·have hz : (i : Int) < (a.length : Int) := by omega
   obtain ⟨ad, e0, hx⟩ := Kd.at_int HA.out i (by omega) hz
   cases e0
   by_cases hlb : i < b.length
   ·have hzb : ¬ (i : Int) ≥ (b.length : Int) := by omega
    have hzb2 : (i : Int) < (b.length : Int) := by omega
    obtain ⟨ad2, e1, hy⟩ := Kd.at_int HB.out i (by omega) (by omega)
    cases e1
    simp only [Int.toNat_natCast] at hx hy
    have hst := cmpL_step cmpI a b i hlt hlb
    have ea : a[i] = rd a i := by simp [rd, List.getD_eq_getElem?_getD, hlt]
    have eb : b[i] = rd b i := by simp [rd, List.getD_eq_getElem?_getD, hlb]
    rw [ea, eb] at hst
    obtain ⟨x, hxx⟩ : ∃ z, z = rd a i := ⟨_, rfl⟩
    obtain ⟨y, hyy⟩ : ∃ z, z = rd b i := ⟨_, rfl⟩
    rw [← hxx] at hst hx
    rw [← hyy] at hst hy
    clear hxx hyy ea eb
    have HST := Aside0.mk hst
    clear hst
    have hcm := fun W => cmp_Compare.calls' x y W
    obtain ⟨c, hc⟩ : ∃ z, z = cmpI x y := ⟨_, rfl⟩
    rw [← hc] at HST hcm
    clear hc
    by_cases hc0 : c = 0
    ·have HE := Aside0.mk (show fin = cmpL cmpI (a.drop (i + 1)) (b.drop (i + 1)) by rw [HF.out, HST.out, if_pos hc0])
     subst hc0
     clear HST
     go_wp2_with (go_at_call 63; refine (hcm _).mono ?_; rintro e w1 ⟨rfl, rfl⟩)
     go_roundg (a.length - (i + 1))
     case measure => omega
     case rel => exact ⟨i + 1, by omega, by omega, by omega, by go_num, HE, rfl⟩
    ·have HE := Aside0.mk (show fin = c by rw [HF.out, HST.out, if_neg hc0])
     have hcn : (c != 0) = true := by rw [bne_iff_ne]; exact hc0
     clear HST
     go_wp2_with (go_at_call 63; refine (hcm _).mono ?_; rintro e w1 ⟨rfl, rfl⟩)
     go_ret
     exact ⟨by rw [HE.out]; rfl, rfl⟩
   ·have hzb : (i : Int) ≥ (b.length : Int) := by omega
    have HE := Aside0.mk (show fin = 1 by rw [HF.out, cmpL_gt cmpI a b i hlt (by omega)])
    simp only [Int.toNat_natCast] at hx
    go_wp2
    go_ret
    exact ⟨by rw [HE.out]; rfl, rfl⟩
  ·have hz : ¬ (i : Int) < (a.length : Int) := by omega
   by_cases hlb : a.length < b.length
   ·have hzb : (a.length : Int) < (b.length : Int) := by omega
    have HE := Aside0.mk (show fin = -1 by rw [HF.out, cmpL_lt cmpI a b i (by omega) (by omega)])
    go_wp2
    go_ret
    exact ⟨by rw [HE.out]; rfl, rfl⟩
   ·have hzb : ¬ (a.length : Int) < (b.length : Int) := by omega
    have HE := Aside0.mk (show fin = 0 by rw [HF.out, cmpL_eq cmpI a b i (by omega) (by omega)])
    go_wp2
    go_ret
    exact ⟨by rw [HE.out]; rfl, rfl⟩

set_option maxHeartbeats 4000000 in
theorem slices_CompareFunc_rows.calls (g : Nat) (lb : Array Value) (cf : List Int → List Int → Int) (A0 : Option Addr) (c0 : Nat) (a : List (List Int)) (A1 : Option Addr) (c1 : Nat) (b : List (List Int)) (w : World)
  (eg : ∀ args w, (callFunc g args).run Try.prog w = .ok (.enter g args) w)
  (hf : ∀ (x y : List Int) (A : Option Addr) (c : Nat) (A' : Option Addr) (c' : Nat) (W : World), Kd.C (Kd.int .i64) W A x.length x → Kd.C (Kd.int .i64) W A' y.length y → Gives Try.prog g (#[.slice A x.length c, .slice A' y.length c'] ++ lb) W (.int .i64 (cf x y)))
  (ha : Kd.C (Kd.slice 3 (Kd.int .i64)) w A0 a.length a) (hb : Kd.C (Kd.slice 3 (Kd.int .i64)) w A1 b.length b) :
  Calls Try.prog 43 #[.slice A0 a.length c0, .slice A1 b.length c1, .func (.func g) #[] lb] w fun e w' => e = .returned (.int .i64 (cmpL cf a b)) ∧ Below w.heap.size w w' := by
 have hma := ha.2.1
 have hmb := hb.2.1
 have HA := Aside0.mk ha
 have HB := Aside0.mk hb
 have HFN := Aside0.mk hf
 clear ha hb hf
 have HF := Aside0.mk (show cmpL cf a b = cmpL cf (a.drop 0) (b.drop 0) from rfl)
 have HW := Aside0.mk (Below.refl w.heap.size w)
 obtain ⟨fin, hfin⟩ : ∃ z, z = cmpL cf a b := ⟨_, rfl⟩
 rw [← hfin] at HF ⊢
 clear hfin
 go_enter Try.func43, Try.ntmps43
 go_wp2
 go_loopg [7, 8, 9, 10, 13] a.length (fun gg s7 s8 s9 s10 s13 wr => ∃ i : Nat, i ≤ a.length ∧ i ≤ b.length ∧ a.length - i ≤ gg ∧ s13 = .int .i64 i ∧ Aside0 (fin = cmpL cf (a.drop i) (b.drop i)) ∧ Aside0 (Below w.heap.size w wr))
 case atStart => exact ⟨0, Nat.zero_le _, Nat.zero_le _, Nat.le_refl _, rfl, HF, HW⟩
 case round =>
  clear HF HW
  obtain ⟨i, hi, hi2, hg, rfl, HF, HW⟩ := hrel
  by_cases hlt : i < a.length
  ·have hz : (i : Int) < (a.length : Int) := by omega
   obtain ⟨ad, Ax, cx, e0, hx, _, hrx⟩ := rowsAt HA.out i hlt
   cases e0
   replace hx := pw_cell_below HW.out hx
   by_cases hlb : i < b.length
   ·have hzb : ¬ (i : Int) ≥ (b.length : Int) := by omega
    have hzb2 : (i : Int) < (b.length : Int) := by omega
    obtain ⟨ad2, Ay, cy, e1, hy, _, hry⟩ := rowsAt HB.out i hlb
    cases e1
    replace hy := pw_cell_below HW.out hy
    have hst := cmpL_step cf a b i hlt hlb
    rw [← getD_at a [] i hlt, ← getD_at b [] i hlb] at hst
    have hcm := HFN.out (a.getD i []) (b.getD i []) Ax cx Ay cy wr (Kd.C_below hrx HW.out) (Kd.C_below hry HW.out)
    obtain ⟨x, hxx⟩ : ∃ z, z = a.getD i [] := ⟨_, rfl⟩
    obtain ⟨y, hyy⟩ : ∃ z, z = b.getD i [] := ⟨_, rfl⟩
    rw [← hxx] at hst hx hcm
    rw [← hyy] at hst hy hcm
    clear hxx hyy hrx hry
    have HST := Aside0.mk hst
    clear hst
    obtain ⟨c, hc⟩ : ∃ z, z = cf x y := ⟨_, rfl⟩
    rw [← hc] at HST hcm
    clear hc
    by_cases hc0 : c = 0
    ·have HE := Aside0.mk (show fin = cmpL cf (a.drop (i + 1)) (b.drop (i + 1)) by rw [HF.out, HST.out, if_pos hc0])
     subst hc0
     clear HST
     go_wp2_with (go_at_fn g; refine hcm.mono ?_; rintro e w1 ⟨rfl, hb⟩; have HW1 := Aside0.mk (below_step HW.out hb); clear hb)
     go_roundg (a.length - (i + 1))
     case measure => omega
     case rel => exact ⟨i + 1, by omega, by omega, by omega, by go_num, HE, HW1⟩
    ·have HE := Aside0.mk (show fin = c by rw [HF.out, HST.out, if_neg hc0])
     have hcn : (c != 0) = true := by rw [bne_iff_ne]; exact hc0
     clear HST
     go_wp2_with (go_at_fn g; refine hcm.mono ?_; rintro e w1 ⟨rfl, hb⟩; have HW1 := Aside0.mk (below_step HW.out hb); clear hb)
     go_ret
     exact ⟨by rw [HE.out]; rfl, HW1.out⟩
   ·have hzb : (i : Int) ≥ (b.length : Int) := by omega
    have HE := Aside0.mk (show fin = 1 by rw [HF.out, cmpL_gt cf a b i hlt (by omega)])
    go_wp2
    go_ret
    exact ⟨by rw [HE.out]; rfl, HW.out⟩
  ·have hz : ¬ (i : Int) < (a.length : Int) := by omega
   by_cases hlb : a.length < b.length
   ·have hzb : (a.length : Int) < (b.length : Int) := by omega
    have HE := Aside0.mk (show fin = -1 by rw [HF.out, cmpL_lt cf a b i (by omega) (by omega)])
    go_wp2
    go_ret
    exact ⟨by rw [HE.out]; rfl, HW.out⟩
   ·have hzb : ¬ (a.length : Int) < (b.length : Int) := by omega
    have HE := Aside0.mk (show fin = 0 by rw [HF.out, cmpL_eq cf a b i (by omega) (by omega)])
    go_wp2
    go_ret
    exact ⟨by rw [HE.out]; rfl, HW.out⟩
/-- The order of two tables. -/
def cmpT (a b : List (List Int)) : Int := cmpL (cmpL cmpI) a b
theorem cmpT_zero (a b : List (List Int)) : cmpT a b = 0 ↔ a = b := cmpL_zero _ (cmpL_zero _ cmpI_zero) a b
theorem compareTables_1.calls (x y : List Int) (A : Option Addr) (c : Nat) (A' : Option Addr) (c' : Nat) (W : World) (hx : Kd.C (Kd.int .i64) W A x.length x) (hy : Kd.C (Kd.int .i64) W A' y.length y) :
  Gives Try.prog 44 #[.slice A x.length c, .slice A' y.length c'] W (.int .i64 (cmpL cmpI x y)) := by
 unfold Gives
 have hcm := slices_Compare.calls' A c x A' c' y W hx hy
 clear hx hy
 go_enter Try.func44, Try.ntmps44
 go_wp2_with (go_at_call 45; refine hcm.mono ?_; rintro e w1 ⟨rfl, rfl⟩)
 go_ret
 exact ⟨rfl, Below.refl _ _⟩
theorem impl_compareTables.calls' (A0 : Option Addr) (c0 : Nat) (a : List (List Int)) (A1 : Option Addr) (c1 : Nat) (b : List (List Int)) (w : World)
  (ha : Kd.C (Kd.slice 3 (Kd.int .i64)) w A0 a.length a) (hb : Kd.C (Kd.slice 3 (Kd.int .i64)) w A1 b.length b) :
  Calls Try.prog 29 #[.slice A0 a.length c0, .slice A1 b.length c1] w fun e w' => e = .returned (.int .i64 (cmpT a b)) ∧ Below w.heap.size w w' := by
 have hcm := slices_CompareFunc_rows.calls 44 #[] (cmpL cmpI) A0 c0 a A1 c1 b w (enters_of Try.func44 (by kernel_rfl) rfl) (fun x y A c A' c' W hx hy => compareTables_1.calls x y A c A' c' W hx hy) ha hb
 clear ha hb
 have HT := Aside0.mk (show cmpT a b = cmpL (cmpL cmpI) a b from rfl)
 obtain ⟨r, hr⟩ : ∃ z, z = cmpL (cmpL cmpI) a b := ⟨_, rfl⟩
 rw [← hr] at hcm HT
 clear hr
 go_enter Try.func29, Try.ntmps29
 go_wp2_with (go_at_call 43; refine hcm.mono ?_; rintro e w1 ⟨rfl, hb⟩)
 go_ret
 exact ⟨by rw [HT.out]; rfl, hb⟩
end Go.Proofs.Ythlgclfhoeakgaa

namespace Go.Proofs.Ythlgclfhoeakgaa
open Go.RowKit Go.Proofs.Ythlgclfhoeakgaa.P Go.Proofs.Ythlgclfhoeakgaa.L Go.Proofs.YthlgclfhoeakgaaW.PrintWords Go.Proofs.YthlgclfhoeakgaaW.PrintLast Go.Proofs.YthlgclfhoeakgaaW.PrintMore
set_option linter.unusedVariables false

def spec_gyNext.f (l0 : List (List Int)) : Option (List (List Int)) := if isSign l0 = true then some (flip2 l0 0 1) else none
theorem spec_gyNext.calls (A0 : Option Addr) (c0 : Nat) (l0 : List (List Int)) (r : List (List Int)) (w : World) (hr0 : Kd.C (Kd.slice 3 (Kd.int .i64)) w A0 l0.length l0) (hc0 : l0.length ≤ c0) (h : spec_gyNext.f l0 = some r) :
  Calls Try.prog 58 #[.slice A0 l0.length c0] w fun e w' => ∃ v0_ : Value, e = .returned (v0_) ∧ Kd.S (Kd.slice 3 (Kd.int .i64)) 34 w' w.heap.size (fun _ => True) v0_ r ∧ Below w.heap.size w w' := by
 unfold spec_gyNext.f at h
 by_cases hs : isSign l0 = true
 ·rw [if_pos hs] at h
  obtain rfl := Option.some.inj h
  exact spec_gyNext.callsG A0 c0 l0 w hs hr0 hc0
 ·rw [if_neg hs] at h
  cases h
def impl_gyrated.f (l0 : List (List Int)) : Option (List (List Int)) := if isSign l0 = true then some (flip2 l0 0 1) else none
theorem impl_gyrated.calls (A0 : Option Addr) (c0 : Nat) (l0 : List (List Int)) (r : List (List Int)) (w : World) (hr0 : Kd.C (Kd.slice 3 (Kd.int .i64)) w A0 l0.length l0) (hc0 : l0.length ≤ c0) (h : impl_gyrated.f l0 = some r) :
  Calls Try.prog 53 #[.slice A0 l0.length c0] w fun e w' => ∃ v0_ : Value, e = .returned (v0_) ∧ Kd.S (Kd.slice 3 (Kd.int .i64)) 34 w' w.heap.size (fun _ => True) v0_ r ∧ Below w.heap.size w w' := by
 unfold impl_gyrated.f at h
 by_cases hs : isSign l0 = true
 ·rw [if_pos hs] at h
  obtain rfl := Option.some.inj h
  exact impl_gyrated.callsG A0 c0 l0 w hs hr0 hc0
 ·rw [if_neg hs] at h
  cases h
def impl_compareTables.f (l0 : List (List Int)) (l1 : List (List Int)) : Option Int := some (cmpT l0 l1)
theorem impl_compareTables.calls (A0 : Option Addr) (c0 : Nat) (l0 : List (List Int)) (A1 : Option Addr) (c1 : Nat) (l1 : List (List Int)) (r : Int) (w : World) (hr0 : Kd.C (Kd.slice 3 (Kd.int .i64)) w A0 l0.length l0) (hc0 : l0.length ≤ c0) (hr1 : Kd.C (Kd.slice 3 (Kd.int .i64)) w A1 l1.length l1) (hc1 : l1.length ≤ c1) (h : impl_compareTables.f l0 l1 = some r) :
  Calls Try.prog 29 #[.slice A0 l0.length c0, .slice A1 l1.length c1] w fun e w' => e = .returned (.int .i64 r) ∧ Below w.heap.size w w' := by
 obtain rfl := Option.some.inj h
 exact (impl_compareTables.calls' A0 c0 l0 A1 c1 l1 w hr0 hr1).mono fun e w' h => by first | exact h | exact ⟨h.1, by rw [← h.2]; exact Below.refl _ _⟩ | exact ⟨h.1, h.2.below⟩
end Go.Proofs.Ythlgclfhoeakgaa

namespace Go.Proofs.Ythlgclfhoeakgaa.P
open Go.RowKit Go.Proofs.YthlgclfhoeakgaaW.PrintWords Go.Proofs.YthlgclfhoeakgaaW.PrintLast Go.Proofs.YthlgclfhoeakgaaW.PrintMore
attribute [local go_sem] max2_int min2_int max_two min_two max_three min_three max_four min_four   -- for this text's walks alone
set_option linter.unusedVariables false
set_option linter.unusedSimpArgs false

def impl_copyTable.l0 : Nat → List (List Int) → List (List Int) → Int → Int → Option ((List (List Int)))
 | 0, _, _, _, _ => none
 | k + 1, x3, x7, x8, x9 => if x9 < x8 then (if 0 ≤ x9 then (if x9 < (x7.length : Int) then ((slices_Clone_int_int.f (rd_L1 x7 x9)).bind fun t264 => (if x3.length < 5864062014805 then (impl_copyTable.l0 k (x3 ++ [t264]) x7 x8 (wrap64 (x9 + 1))) else (none))) else (none)) else (none)) else (some x3)
def impl_copyTable.f (k : Nat) (l0 : List (List Int)) : Option ((List (List Int))) := impl_copyTable.l0 k (([] : List (List Int))) l0 (l0.length : Int) 0
set_option maxHeartbeats 8000000 in
set_option maxRecDepth 100000 in
theorem impl_copyTable.calls (k : Nat) (A0 : Option Addr) (c0 : Nat) (l0 : List (List Int)) (r : List (List Int)) (w : World) (hr0 : Kd.C (Kd.slice 3 (Kd.int .i64)) w A0 l0.length l0) (hc0 : l0.length ≤ c0) (h : impl_copyTable.f k l0 = some r) :
  Calls Try.prog 52 #[.slice A0 l0.length c0] w fun e w' => ∃ v0_ : Value, e = .returned (v0_) ∧ Kd.S (Kd.slice 3 (Kd.int .i64)) 34 w' w.heap.size (fun _ => True) v0_ r ∧ Below w.heap.size w w' := by
 have HR0 := Aside0.mk hr0
 have HC0 := Aside0.mk hc0
 clear hr0 hc0
 have HB := Aside0.mk (Below.refl w.heap.size w)
 have H : (impl_copyTable.l0 k (([] : List (List Int))) l0 (l0.length : Int) 0) = some r := h
 clear h
 obtain ⟨y260, hy260⟩ : ∃ y_ : List (List Int), y_ = (([] : List (List Int))) := ⟨_, rfl⟩
 replace H : (impl_copyTable.l0 k y260 l0 (l0.length : Int) 0) = some r := by first | (rw [hy260]; with_reducible exact H) | (have H2_ := (Option.bind_some _ _).symm.trans H; rw [hy260]; with_reducible exact H2_) | (have H2_ := (Option.bind_some _ _).symm.trans H; with_reducible exact H2_) | with_reducible exact H | (rw [hy260]; exact H) | exact H
 have Ny260 := Aside0.mk hy260
 clear hy260
 have H' := Aside0.mk H
 clear H
 go_enter Try.func52, Try.ntmps52
 go_wp2_with (first | ((with_reducible refine gate_dst (N := 6) rfl ?_); refine Kd.S_lit (Kd.slice 3 (Kd.int .i64)) _ 34 ?hg (N := 6) ?hd (xs := ([] : List (List Int))) (inner := []) (ok := fun _ => True) (okp := fun _ => True) ?hr ?hp (fun _ hk => hk) trivial (Below.refl _ _) (Nat.le_refl _) (by simp) ?_; (case hd => rfl); (case hg => rfl); (case hr => first | (go_simp; done) | (go_simp; rfl)); (case hp => exact (Reps.none _ _)); intro v261 w2 ho3 hb hg_ hnew_; clear hg_ hnew_; (first | rw [← Ny260.out] at ho3 | (simp only [Int.reduceToNat] at ho3; rw [← Ny260.out] at ho3)); have n0_ := Aside0.mk (Kd.S_lower ho3 (below_size (by repeat (first | (with_reducible first | exact HB.out | apply below_alloc | apply pw_below_drewN | apply below_drew1) | exact HB.out)))); have n1_ := Aside0.mk (below_step (by repeat (first | (with_reducible first | exact HB.out | apply below_alloc | apply pw_below_drewN | apply below_drew1) | exact HB.out)) hb); clear HB; have HO262 := n0_; have HB := n1_; clear n0_ n1_; clear hb ho3))
 go_loopg [3, 9] k (fun kq v3 v9 w' => ∃ (x3_1 : List (List Int)) (x9_1 : Int), v9 = .int .i64 x9_1 ∧ Aside0 (impl_copyTable.l0 kq x3_1 l0 (l0.length : Int) x9_1 = some r) ∧ Aside0 (kq ≤ k) ∧ Aside0 (Kd.S (Kd.slice 3 (Kd.int .i64)) 34 w' w.heap.size (fun _ => True) v3 x3_1) ∧ Aside0 (Below w.heap.size w w'))
 case atStart => exact ⟨(y260), (0), (by first | rfl | (simp; done) | (simp [*]; done)), H', ⟨Nat.le_refl _⟩, ⟨by (with_reducible repeat (first | apply Kd.S_alloc | apply Kd.S_drewN | apply Kd.S_drew)); exact HO262.out⟩, ⟨by repeat (first | (with_reducible first | exact HB.out | apply below_alloc | apply pw_below_drewN | apply below_drew1) | exact HB.out)⟩⟩
 case round =>
  clear H'
  try clear p2
  obtain ⟨x3_1, x9_1, rfl, HA, HK1, HO_3, HB⟩ := hrel
  cases gk with
  | zero => exact absurd HA.out (by simp [impl_copyTable.l0])
  | succ k1 =>
   have H := HA.out
   clear HA
   simp only [impl_copyTable.l0] at H
   by_cases c4 : x9_1 < (l0.length : Int)
   ·rw [if_pos c4] at H
    have c4b0 : decide (x9_1 < (l0.length : Int)) = true := decide_eq_true c4
    clear c4
    by_cases c5 : 0 ≤ x9_1
    ·rw [if_pos c5] at H
     have c5b0 : decide (0 ≤ x9_1) = true := decide_eq_true c5
     clear c5
     by_cases c6 : x9_1 < (l0.length : Int)
     ·rw [if_pos c6] at H
      have c6b0 : decide (x9_1 < (l0.length : Int)) = true := decide_eq_true c6
      clear c6
      replace H := Option.bind_eq_some_iff.mp H
      obtain ⟨t264, A70, H⟩ := H
      replace H : (if x3_1.length < 5864062014805 then (impl_copyTable.l0 k1 (x3_1 ++ [t264]) l0 (l0.length : Int) (wrap64 (x9_1 + 1))) else (none)) = some r := H
      have A7 := Aside0.mk A70
      clear A70
      by_cases c8 : x3_1.length < 5864062014805
      ·rw [if_pos c8] at H
       have LMc8 := Aside0.mk c8
       clear c8
       obtain ⟨y267, hy267⟩ : ∃ y_ : List (List Int), y_ = (x3_1 ++ [t264]) := ⟨_, rfl⟩
       replace H : (impl_copyTable.l0 k1 y267 l0 (l0.length : Int) (wrap64 (x9_1 + 1))) = some r := by first | (rw [hy267]; with_reducible exact H) | (have H2_ := (Option.bind_some _ _).symm.trans H; rw [hy267]; with_reducible exact H2_) | (have H2_ := (Option.bind_some _ _).symm.trans H; with_reducible exact H2_) | with_reducible exact H | (rw [hy267]; exact H) | exact H
       have Ny267 := Aside0.mk hy267
       clear hy267
       have H' := Aside0.mk H
       clear H
       have p263 : 0 ≤ (x9_1 : Int) := of_decide_eq_true (by first | (with_reducible assumption) | assumption)
       have q263 : x9_1 < (l0.length : Int) := of_decide_eq_true (by first | (with_reducible assumption) | assumption)
       obtain ⟨ad263, A263_0, c263_0, e263, hx263_0, hl263_0, hi263_0⟩ := at_L1 HR0.out x9_1 p263 q263
       cases e263
       (try replace hx263_0 := (HB.out.cell (World.block_lt_of_cell? w _ hx263_0)).trans hx263_0)
       have HR263_0 := Aside0.mk hi263_0
       have HC263_0 := Aside0.mk hl263_0
       clear hi263_0 hl263_0
       replace p263 := eq_true p263
       replace q263 := eq_true q263
       go_wp2_with (first | ((with_reducible refine gate_callee (f := 68) rfl ?_); refine goesL_ (some 15) rfl rfl Try.func68 (by kernel_rfl) rfl #[.slice A263_0 (rd_L1 l0 x9_1).length c263_0] rfl (by (try simp only [List.map_toArray, List.map_cons, List.map_nil]); first | done | rfl | (simp only [List.length_drop, List.length_take]; rfl)) ?_; (with_reducible refine (slices_Clone_int_int.calls _ _ (rd_L1 l0 x9_1) t264 _ ?side1 ?side2 A7.out).mono ?_); (case side1 => repeat (first | exact (Kd.C_below HR263_0.out HB.out) | (with_reducible refine Kd.C_alloc ?_ _) | (with_reducible refine Kd.C_drewN ?_ _) | (with_reducible refine Kd.C_drew ?_))); (case side2 => exact HC263_0.out); rintro e w9 ⟨v265, rfl, ho0, hb⟩; refine ⟨_, rfl, ?_⟩; have n0_ := Aside0.mk (Kd.S_elder' (by (with_reducible repeat (first | apply Kd.S_alloc | apply Kd.S_drewN | apply Kd.S_drew)); exact HO_3.out) (Kd.R_base ho0) hb); have n1_ := Aside0.mk (Kd.R_lower ho0 (below_size (by repeat (first | (with_reducible first | exact HB.out | apply below_alloc | apply pw_below_drewN | apply below_drew1) | exact HB.out)))); have n2_ := Aside0.mk (below_step (by repeat (first | (with_reducible first | exact HB.out | apply below_alloc | apply pw_below_drewN | apply below_drew1) | exact HB.out)) hb); clear HO_3; clear HB; have HO_3 := n0_; have HO266 := n1_; have HB := n2_; clear n0_ n1_ n2_; (try clear hb); (try clear hb2); (try clear hk); (try clear hi); (try clear ho0); obtain ⟨Ao11, co11, eo11⟩ := Kd.R_slice HO266.out; subst eo11) | ((with_reducible refine gate_builtin (b := .append) (xs := #[.tmp 13, .tmp 16]) rfl ?_); at_builtin; refine Kd.S_append (Kd.slice 3 (Kd.int .i64)) (w0 := w) w.heap.size rfl (.tmp 13) (.tmp 16) 22 34 (.slice none 0 0) 24 rfl Try.underlying22 info34 rfl (by decide) (by omega) u3 x3_1 t264 [.slice Ao11 t264.length co11] (fun _ => True) (fun k_ => some k_ = (.slice Ao11 t264.length co11 : Value).ownBlock) rfl rfl ?aP (fun k_ hk_ => ((Kd.R_mono (ok' := fun k_ => ((fun _ => True)) k_ ∧ some k_ ≠ (u3 : Value).ownBlock) (Kd.R_apart' (HO266.out) (Kd.S_typed HO_3.out) (by decide)) (fun k_ hk => ⟨trivial, hk.2⟩))).1 k_ hk_.symm) ?aF ?aO ?aB ?aS ?aL ?_; (case aP => exact Kd.M_row (Kd.R_mono (Kd.R_tight rfl (Kd.R_mono (ok' := fun k_ => ((fun _ => True)) k_ ∧ some k_ ≠ (u3 : Value).ownBlock) (Kd.R_apart' (HO266.out) (Kd.S_typed HO_3.out) (by decide)) (fun k_ hk => ⟨trivial, hk.2⟩))) (fun _ h_ => h_))); (case aB => exact (by repeat (first | (with_reducible first | exact HB.out | apply below_alloc | apply pw_below_drewN | apply below_drew1) | exact HB.out))); (case aF => exact (fun _ _ => trivial)); (case aO => exact (by (with_reducible repeat (first | apply Kd.S_alloc | apply Kd.S_drewN | apply Kd.S_drew)); exact Kd.S_mono HO_3.out (fun k_ hk => ⟨trivial, fun e_ => hk.2 e_⟩))); (case aS => exact (below_size (by repeat (first | (with_reducible first | exact HB.out | apply below_alloc | apply pw_below_drewN | apply below_drew1) | exact HB.out)))); (case aL => have := LMc8.out; omega); intro v268 w10 ho hb hg hat; rw [← Ny267.out] at ho; have n0_ := Aside0.mk (hb); have n1_ := Aside0.mk (ho); clear HB; clear HO_3; clear HO266; have HB := n0_; have HO269 := n1_; clear n0_ n1_; clear ho hb hg hat))
       go_roundg k1
       case measure => have := HK1.out; omega
       case rel => exact ⟨(y267), (wrap64 (x9_1 + 1)), (by first | rfl | (simp; done) | (simp [*]; done)), H', ⟨by have := HK1.out; omega⟩, ⟨by (with_reducible repeat (first | apply Kd.S_alloc | apply Kd.S_drewN | apply Kd.S_drew)); exact HO269.out⟩, ⟨by repeat (first | (with_reducible first | exact HB.out | apply below_alloc | apply pw_below_drewN | apply below_drew1) | exact HB.out)⟩⟩
      ·rw [if_neg c8] at H
       exact absurd H (by simp)
     ·rw [if_neg c6] at H
      exact absurd H (by simp)
    ·rw [if_neg c5] at H
     exact absurd H (by simp)
   ·rw [if_neg c4] at H
    have c4b0 : decide (x9_1 < (l0.length : Int)) = false := decide_eq_false c4
    clear c4
    obtain rfl := Option.some.inj H
    go_wp2
    go_ret
    exact ⟨_, by first | rfl | (simp [errW_none, errW_some] <;> rfl) | (simp [*, errW_none, errW_some] <;> rfl), by (with_reducible repeat (first | apply Kd.S_alloc | apply Kd.S_drewN | apply Kd.S_drew)); exact HO_3.out, by repeat (first | (with_reducible first | exact HB.out | apply below_alloc | apply pw_below_drewN | apply below_drew1) | exact HB.out)⟩

end Go.Proofs.Ythlgclfhoeakgaa.P

namespace Go.Proofs.Ythlgclfhoeakgaa.L
open Go.RowKit Go.Proofs.Ythlgclfhoeakgaa Go.Proofs.Ythlgclfhoeakgaa.P Go.Proofs.YthlgclfhoeakgaaW.PrintWords Go.Proofs.YthlgclfhoeakgaaW.PrintLast Go.Proofs.YthlgclfhoeakgaaW.PrintMore
set_option linter.unusedVariables false
set_option linter.unusedSimpArgs false

/-- A literal of one element. -/
theorem S_one {α : Type} {d : Kd α} {e : Nat} {W : World} {B g : Nat} {ok okp : Nat → Prop} {p : α} {v : Value} (hsz : d.sz = 1) (h : W.heap[g]? = some (.cells #[v] e (0, 0))) (hB : B ≤ g) (hok : ok g) (hp : d.M W B okp p [v]) (hokp : ∀ k, okp k → ok k ∧ k ≠ g) : Kd.S d e W B ok (.slice (some ⟨g, 0, none⟩) 1 1) [p] := by
 refine ⟨fun _ => 0, fun k hk => ?_, [v], ⟨by show 1 = 1 * d.sz; omega, .inr ⟨g, 1, #[v], rfl, hB, h, Nat.le_refl _, by unfold maxLen; omega, by show 1 = 1 * d.sz; omega, by show List.take (1 * d.sz) [v] = [v]; rw [hsz]; rfl⟩⟩, ⟨by show 1 = 1 * d.sz; omega, fun j q hj => ?_⟩⟩
 ·have : g = k := by simpa [Value.ownBlock] using hk
  exact this ▸ hok
 ·rcases j with _ | j
  ·have hq : q = (p, 0) := by simpa using hj.symm
   subst hq
   show d.M W B _ p ((List.drop (0 * d.sz) [v]).take d.sz)
   rw [Nat.zero_mul, hsz]
   exact d.M_mono (fun k hk => ⟨⟨(hokp k hk).1, fun e => (hokp k hk).2 (by simpa [Value.ownBlock] using e)⟩, rfl⟩) hp
  ·simp at hj
theorem slice3 {α : Type} {d : Kd α} {e : Nat} {W : World} {B : Nat} {ok : Nat → Prop} {v : Value} {xs : List α} (h : Kd.S d e W B ok v xs) : ∃ A n c, v = .slice A n c := by
 obtain ⟨A, c, rfl⟩ := Kd.R_slice (Kd.S_R h)
 exact ⟨A, _, c, rfl⟩
/-- The orbit, by rounds. -/
def orbP.l0 : Nat → List (List Int) → List (List (List Int)) → List (List Int) → Option ((List (List (List Int))) × Bool)
 | 0, _, _, _ => none
 | k + 1, x0, x4, x5 => (impl_compareTables.f x5 x0).bind fun c => (if c = 0 then (some (x4, true)) else (if (x4.length : Int) = 1000 then (some ([], false)) else (if x4.length < 5864062014805 then ((impl_gyrated.f x5).bind fun y => (orbP.l0 k x0 (x4 ++ [x5]) y)) else (none))))
def orbP.f (k : Nat) (l0 : List (List Int)) : Option ((List (List (List Int))) × Bool) := (impl_copyTable.f k l0).bind fun t => ((impl_gyrated.f l0).bind fun y => (orbP.l0 k l0 [t] y))
def gyoP.f (k : Nat) (l0 : List (List Int)) : Option ((List (List (List Int))) × Bool) := (impl_IsSignMatrix.f l0).bind fun t => (if t = true then ((orbP.f k l0).bind fun b => (some (b.1, b.2))) else (some ([], false)))
theorem info_tabs : (Try.prog.info? 22).map (fun i => (i.zero, i.size, i.bytes)) = some (some (.slice none 0 0), 1, 24) := by kernel_rfl
set_option maxHeartbeats 4000000 in
set_option maxRecDepth 100000 in
theorem impl_orbit.callsS (k : Nat) (A0 : Option Addr) (c0 : Nat) (l0 : List (List Int)) (r1 : List (List (List Int))) (r2 : Bool) (w : World) (hr0 : Kd.C (Kd.slice 3 (Kd.int .i64)) w A0 l0.length l0) (hc0 : l0.length ≤ c0) (h : orbP.f k l0 = some (r1, r2)) :
  Calls Try.prog 38 #[.slice A0 l0.length c0] w (RetTM w r1 r2) := by
 unfold orbP.f at h
 obtain ⟨T, hT, h⟩ := Option.bind_eq_some_iff.1 h
 obtain ⟨x, hx, h⟩ := Option.bind_eq_some_iff.1 h
 have HT := Aside0.mk hT
 have HX := Aside0.mk hx
 have HM := Aside0.mk h
 have HR := Aside0.mk hr0
 have HC := Aside0.mk hc0
 clear hT hx h hr0 hc0
 go_enter Try.func38, Try.ntmps38
 go_wp2_with (first
  | (go_at_call 52; (with_reducible refine (impl_copyTable.calls k _ _ l0 T _ HR.out HC.out HT.out).mono ?_); rintro e w1 ⟨v7, rfl, hS, hb⟩; obtain ⟨A7, n7, c7, rfl⟩ := slice3 hS; have HS7 := Aside0.mk (Kd.S_mono (ok' := fun k => k < w1.heap.size) (Kd.S_bound hS) (fun k hk => hk.2.2.1)); have HB := Aside0.mk hb; clear hS hb)
  | (go_at_call 53; have HB2 := Aside0.mk (below_alloc HB.out (.cells #[.slice A7 n7 c7] 22)); (with_reducible refine (impl_gyrated.calls _ _ l0 x _ (Kd.C_below HR.out HB2.out) HC.out HX.out).mono ?_); rintro e w2 ⟨v5, rfl, hS, hb⟩; obtain ⟨A5, c5, rfl⟩ := Kd.R_slice (Kd.S_R hS); have HSA := Aside0.mk (Kd.S_lower (Kd.S_mono (ok' := fun k => (w1.alloc (.cells #[.slice A7 n7 c7] 22)).heap.size ≤ k) (Kd.S_bound hS) (fun k hk => hk.2.1)) HB2.out.size); have HBA := Aside0.mk (below_step HB2.out hb); have HSO := Aside0.mk (Kd.S_below (S_one (d := tabK) (B := w.heap.size) (ok := fun k => k < (w1.alloc (.cells #[.slice A7 n7 c7] 22)).heap.size) (okp := fun k => k < w1.heap.size) (p := T) rfl (blk_new w1 (.cells #[.slice A7 n7 c7] 22)) HB.out.size (by simp) ⟨_, rfl, Kd.S_alloc HS7.out _⟩ (fun k hk => ⟨by simp; omega, by omega⟩)) hb); have HSZ := Aside0.mk hb.size; have HNB := Aside0.mk HB2.out.size; clear hS hb HS7))
 go_loopg [4, 5] k (fun kq v4 v5 wr => ∃ (acc : List (List (List Int))) (x : List (List Int)) (N1 : Nat) (A5 : Option Addr) (c5 : Nat), v5 = .slice A5 x.length c5 ∧ Aside0 (orbP.l0 kq l0 acc x = some (r1, r2)) ∧ Aside0 (w.heap.size ≤ N1 ∧ N1 ≤ wr.heap.size) ∧ Aside0 (Kd.S tabK 22 wr w.heap.size (fun k => k < N1) v4 acc) ∧ Aside0 (Kd.S (Kd.slice 3 (Kd.int .i64)) 34 wr w.heap.size (fun k => N1 ≤ k) (.slice A5 x.length c5) x) ∧ Aside0 (Below w.heap.size w wr))
 case atStart => exact ⟨_, x, _, A5, c5, rfl, HM, ⟨HNB.out, HSZ.out⟩, HSO, HSA, HBA⟩
 case round =>
  clear HM HSO HSA HBA HSZ HNB
  obtain ⟨acc, x, N1, A5, c5, rfl, HM, HN, HSO, HSX, HB⟩ := hrel
  cases gk with
  | zero => exact absurd HM.out (by simp [orbP.l0])
  | succ k3 =>
  have H := HM.out
  rw [orbP.l0] at H
  obtain ⟨cm, hcm, H⟩ := Option.bind_eq_some_iff.1 H
  have HCM := Aside0.mk hcm
  have HCX := Aside0.mk (Kd.R_reads' (Kd.S_R HSX.out)).2
  obtain ⟨A4, n4, c4, rfl⟩ := slice3 HSO.out
  have hn4 := (Kd.R_reads' (Kd.S_R HSO.out)).1
  obtain rfl : n4 = acc.length := hn4
  clear hcm HM
  by_cases hz : cm = 0
  ·rw [if_pos hz] at H
   obtain ⟨rfl, rfl⟩ := Prod.mk.inj (Option.some.inj H)
   have hzd : (cm != 0) = false := by simp [hz]
   clear H hz
   go_wp2_with (go_at_call 29; (with_reducible refine (impl_compareTables.calls _ _ x _ _ l0 cm _ HCX.out.2 HCX.out.1 (Kd.C_below HR.out HB.out) HC.out HCM.out).mono ?_); rintro e w3 ⟨rfl, hb⟩; have HS3 := Aside0.mk (Kd.S_below HSO.out hb); have HB3 := Aside0.mk (below_step HB.out hb); clear hb)
   go_ret2
   exact ⟨_, rfl, Kd.S_mono HS3.out (fun _ _ => trivial), HB3.out⟩
  ·rw [if_neg hz] at H
   have hzd : (cm != 0) = true := by simp [hz]
   by_cases hl : (acc.length : Int) = 1000
   ·rw [if_pos hl] at H
    obtain ⟨rfl, rfl⟩ := Prod.mk.inj (Option.some.inj H)
    have hld : ((acc.length : Int) == 1000) = true := by simp [hl]
    clear H hz hl
    go_wp2_with (go_at_call 29; (with_reducible refine (impl_compareTables.calls _ _ x _ _ l0 cm _ HCX.out.2 HCX.out.1 (Kd.C_below HR.out HB.out) HC.out HCM.out).mono ?_); rintro e w3 ⟨rfl, hb⟩; have HB3 := Aside0.mk (below_step HB.out hb); clear hb)
    go_ret2
    exact ⟨_, rfl, Kd.S_nil _ _ _ _ _, HB3.out⟩
   ·rw [if_neg hl] at H
    have hld : ((acc.length : Int) == 1000) = false := by simp [hl]
    by_cases hm : acc.length < 5864062014805
    ·rw [if_pos hm] at H
     obtain ⟨y, hy, H⟩ := Option.bind_eq_some_iff.1 H
     have HY := Aside0.mk hy
     have HH := Aside0.mk H
     have HLL := Aside0.mk (show (acc.length + 1) * 24 ≤ 140737488355328 by omega)
     clear H hz hl hy hm
     go_wp2_with (first
      | (go_at_call 29; (with_reducible refine (impl_compareTables.calls _ _ x _ _ l0 cm _ HCX.out.2 HCX.out.1 (Kd.C_below HR.out HB.out) HC.out HCM.out).mono ?_); rintro e w3 ⟨rfl, hb⟩; have HS3 := Aside0.mk (Kd.S_below HSO.out hb); have HX3 := Aside0.mk (Kd.S_below HSX.out hb); have HB3 := Aside0.mk (below_step HB.out hb); have HN3 := Aside0.mk (Nat.le_trans HN.out.2 hb.size); clear hb)
      | ((with_reducible refine gate_builtin (b := .append) (xs := #[.tmp 20, .tmp 22]) rfl ?_); at_builtin; refine Kd.S_append tabK (w0 := w) w.heap.size rfl (.tmp 20) (.tmp 22) 39 22 (.slice none 0 0) 24 rfl Try.underlying39 info_tabs rfl (by decide) (by omega) (.slice A4 acc.length c4) acc x [.slice A5 x.length c5] (fun _ => True) (fun k => N1 ≤ k) rfl rfl ⟨_, rfl, HX3.out⟩ ?aP (fun _ _ => trivial) ?aO HB3.out (Nat.le_trans HN.out.1 HN3.out) HLL.out ?_; (case aP => exact fun k hk => ⟨trivial, fun e => by have := (Kd.S_R HS3.out).1 k e.symm; omega⟩); (case aO => exact Kd.S_mono HS3.out (fun k hk => ⟨trivial, by omega⟩)); intro v6 w4 ho hb hg hat; obtain ⟨A6, n6, c6, rfl⟩ := slice3 ho; have HO6 := Aside0.mk (Kd.S_mono (ok' := fun k => k < w4.heap.size) (Kd.S_bound ho) (fun k hk => hk.2.2.1)); have HF6 := Aside0.mk (Kd.F_grown (Kd.S_F HX3.out) hg (fun k hk e => by have := (Kd.S_R HS3.out).1 k e.symm; omega)); have HB4 := Aside0.mk hb; clear ho hb hg hat)
      | (go_at_call 53; (with_reducible refine (impl_gyrated.calls _ _ x y _ (Kd.F_now HF6.out) HCX.out.1 HY.out).mono ?_); rintro e w5 ⟨v7, rfl, hS, hb⟩; obtain ⟨A7, c7, rfl⟩ := Kd.R_slice (Kd.S_R hS); have HSA := Aside0.mk (Kd.S_lower (Kd.S_mono (ok' := fun k => w4.heap.size ≤ k) (Kd.S_bound hS) (fun k hk => hk.2.1)) HB4.out.size); have HBA := Aside0.mk (below_step HB4.out hb); have HSO5 := Aside0.mk (Kd.S_below HO6.out hb); have HSZ := Aside0.mk hb.size; clear hS hb))
     go_roundg k3
     case measure => omega
     case rel => exact ⟨_, y, _, A7, c7, rfl, HH, ⟨HB4.out.size, HSZ.out⟩, HSO5, HSA, HBA⟩
    ·rw [if_neg hm] at H
     cases H
theorem impl_GyrationOrbit.callsS (k : Nat) (A0 : Option Addr) (c0 : Nat) (l0 : List (List Int)) (r1 : List (List (List Int))) (r2 : Bool) (w : World) (hr0 : Kd.C (Kd.slice 3 (Kd.int .i64)) w A0 l0.length l0) (hc0 : l0.length ≤ c0) (h : gyoP.f k l0 = some (r1, r2)) :
  Calls Try.prog 27 #[.slice A0 l0.length c0] w (RetTM w r1 r2) := by
 unfold gyoP.f at h
 obtain ⟨t, ht, h⟩ := Option.bind_eq_some_iff.1 h
 unfold impl_IsSignMatrix.f at ht
 obtain rfl := Option.some.inj ht
 have hsg := impl_IsSignMatrix.calls' A0 c0 l0 w hr0 hc0
 clear ht
 cases hs : isSign l0 with
 | false =>
  rw [hs] at hsg h
  rw [if_neg (by simp)] at h
  obtain ⟨rfl, rfl⟩ := Prod.mk.inj (Option.some.inj h)
  clear hr0 hc0 hs h
  go_enter Try.func27, Try.ntmps27
  go_wp2_with (go_at_call 42; refine hsg.mono ?_; rintro e w1 ⟨rfl, hb⟩)
  go_ret2
  exact ⟨_, rfl, Kd.S_nil _ _ _ _ _, hb⟩
 | true =>
  rw [hs] at hsg h
  rw [if_pos rfl] at h
  obtain ⟨⟨q1, q2⟩, hq, h⟩ := Option.bind_eq_some_iff.1 h
  obtain ⟨rfl, rfl⟩ := Prod.mk.inj (Option.some.inj h)
  have HO := Aside0.mk (fun W (hb : Below w.heap.size w W) => impl_orbit.callsS k A0 c0 l0 q1 q2 W (Kd.C_below hr0 hb) hc0 hq)
  clear hr0 hc0 hs h hq
  go_enter Try.func27, Try.ntmps27
  go_wp2_with (first | (go_at_call 42; refine hsg.mono ?_; rintro e w1 ⟨rfl, hb⟩; have HB := Aside0.mk hb; clear hb) | (go_at_call 38; refine (HO.out _ HB.out).mono ?_; rintro e w2 ⟨v, rfl, hS, hb⟩; have HS := Aside0.mk (Kd.S_lower hS HB.out.size); have HB2 := Aside0.mk (below_step HB.out hb); clear hS hb))
  go_ret2
  exact ⟨_, rfl, HS.out, HB2.out⟩
end Go.Proofs.Ythlgclfhoeakgaa.L
