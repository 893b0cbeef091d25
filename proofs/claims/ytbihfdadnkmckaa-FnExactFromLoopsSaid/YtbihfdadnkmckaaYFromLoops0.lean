/- Texts of one chain, in build order. -/
import Derived.Test.YtbihfdadnkmckaaYBAreLoopsFromLoopsLoopsOf7
namespace Go.Proofs.Ytbihfdadnkmckaa
open Go.RowKit Go.Proofs.YtbihfdadnkmckaaW.PrintWords Go.Proofs.YtbihfdadnkmckaaW.PrintLast Go.Proofs.YtbihfdadnkmckaaW.PrintMore
set_option linter.unusedVariables false
set_option linter.unusedSimpArgs false

def rowOk (c : Int) (x : List Int) : Bool := ((x.length : Int) == c) && x.all fun y => inB y 0 1
theorem isTable_1.calls (x : List Int) (A : Option Addr) (cp g : Nat) (c : Int) (W : World) (hC : Kd.C (Kd.int .i64) W A x.length x) (hcp : x.length ≤ cp) (hx : W.cell? ⟨g, 0, none⟩ = some (.int .i64 c)) :
  Gives Try.prog 52 #[.slice A x.length cp, .pointer (some ⟨g, 0, none⟩)] W (.bool (!rowOk c x)) := by
 have hw := impl_areWithin.calls A cp x 0 1 _ W hC hcp rfl
 have hm := hC.2.1
 unfold Gives
 obtain ⟨q, hq⟩ : ∃ q, q = x.all fun y => inB y 0 1 := ⟨_, rfl⟩
 have HQ := Aside0.mk hq
 rw [← hq] at hw
 clear hC hcp hq
 by_cases he : (x.length : Int) = c
 ·have h2 : (((x.length : Nat) : Int) != c) = false := by rw [bne_eq_false_iff_eq]; exact he
  have HE := Aside0.mk (show rowOk c x = q by unfold rowOk; rw [beq_iff_eq.2 he, Bool.true_and, HQ.out])
  clear he
  go_enter Try.func52, Try.ntmps52
  go_wp2_with (go_at_call 53; refine hw.mono ?_; rintro e w' ⟨rfl, hb⟩; have HB := Aside0.mk hb; clear hb)
  go_ret
  exact ⟨by rw [HE.out]; rfl, HB.out⟩
 ·have h2 : (((x.length : Nat) : Int) != c) = true := by rw [bne_iff_ne]; exact he
  have HE := Aside0.mk (show rowOk c x = false by unfold rowOk; rw [beq_eq_false_iff_ne.2 he, Bool.false_and])
  clear he
  go_enter Try.func52, Try.ntmps52
  go_wp2
  go_ret
  exact ⟨by rw [HE.out]; rfl, Below.refl _ _⟩
/-- A table of r rows of c zeros or ones. -/
def tabB (l : List (List Int)) (r c : Int) : Bool := ((l.length : Int) == r) && l.all (rowOk c)
def impl_isTable.f (l0 : List (List Int)) (a1 a2 : Int) : Option Bool := some (tabB l0 a1 a2)
theorem all_anyP (l : List (List Int)) (p : List Int → Bool) : l.all p = !(l.any fun x => !p x) := by
 induction l with
 | nil => rfl
 | cons a r ih => rw [List.all_cons, List.any_cons, ih]; cases p a <;> rfl
set_option maxHeartbeats 1000000 in
theorem impl_isTable.calls (A0 : Option Addr) (c0 : Nat) (l0 : List (List Int)) (a1 a2 : Int) (r : Bool) (w : World) (hr0 : Kd.C (Kd.slice 3 (Kd.int .i64)) w A0 l0.length l0) (hc0 : l0.length ≤ c0) (h : impl_isTable.f l0 a1 a2 = some r) :
  Calls Try.prog 33 #[.slice A0 l0.length c0, .int .i64 a1, .int .i64 a2] w fun e w' => e = .returned (.bool r) ∧ Below w.heap.size w w' := by
 obtain rfl := Option.some.inj h
 have hm := hr0.2.1
 have eg : ∀ args w, (callFunc 52 args).run Try.prog w = .ok (.enter 52 args) w := enters_of Try.func52 (by kernel_rfl) rfl
 have hB2 : Below w.heap.size w (w.alloc (.cells #[.int .i64 a2] 3)) := below_alloc (Below.refl _ _) _
 have hx : (w.alloc (.cells #[.int .i64 a2] 3)).cell? ⟨w.heap.size, 0, none⟩ = some (.int .i64 a2) := by rw [World.cell?_alloc_at _ _ _ _ rfl]; rfl
 have hcon := slices_ContainsFunc_rows.calls 52 #[.pointer (some ⟨w.heap.size, 0, none⟩)] (fun x => !rowOk a2 x) A0 c0 l0 (w.alloc (.cells #[.int .i64 a2] 3)) eg
  (fun x A c W _ hb hcx hc => isTable_1.calls x A c _ a2 W hcx hc (pw_cell_below hb hx)) (Kd.C_below hr0 hB2) hc0
 obtain ⟨q, hq⟩ : ∃ q, q = l0.any fun x => !rowOk a2 x := ⟨_, rfl⟩
 have HQ := Aside0.mk (show l0.all (rowOk a2) = !q by rw [hq]; exact all_anyP l0 _)
 rw [← hq] at hcon
 have HB := Aside0.mk hB2
 clear hr0 hB2 hq hc0 h hx
 by_cases he : (l0.length : Int) = a1
 ·have h2 : (((l0.length : Nat) : Int) == a1) = true := by rw [beq_iff_eq]; exact he
  have HE := Aside0.mk (show tabB l0 a1 a2 = !q by unfold tabB; rw [h2, Bool.true_and, HQ.out])
  clear he
  go_enter Try.func33, Try.ntmps33
  go_wp2_with (go_at_call 51; refine hcon.mono ?_; rintro e w' ⟨rfl, hb⟩; have HB2 := Aside0.mk hb; clear hb)
  go_ret
  exact ⟨by rw [HE.out]; rfl, below_then HB.out HB.out.size HB2.out⟩
 ·have h2 : (((l0.length : Nat) : Int) == a1) = false := by rw [beq_eq_false_iff_ne]; exact he
  have HE := Aside0.mk (show tabB l0 a1 a2 = false by unfold tabB; rw [h2, Bool.false_and])
  clear he
  go_enter Try.func33, Try.ntmps33
  go_wp2
  go_ret
  exact ⟨by rw [HE.out]; rfl, HB.out⟩
end Go.Proofs.Ytbihfdadnkmckaa

namespace Go.Proofs.Ytbihfdadnkmckaa
open Go.RowKit Go.Proofs.YtbihfdadnkmckaaW.PrintWords Go.Proofs.YtbihfdadnkmckaaW.PrintLast Go.Proofs.YtbihfdadnkmckaaW.PrintMore
set_option linter.unusedVariables false
set_option linter.unusedSimpArgs false

def cmpI (x y : Int) : Int := if x < y then -1 else if y < x then 1 else 0
/-- The order of two lists, out of that of their elements. -/
def cmpL {α : Type} (cf : α → α → Int) : List α → List α → Int
 | [], [] => 0
 | [], _ :: _ => -1
 | _ :: _, [] => 1
 | x :: xs, y :: ys => if cf x y = 0 then cmpL cf xs ys else cf x y
theorem cmpL_step {α : Type} (cf : α → α → Int) (a b : List α) (i : Nat) (ha : i < a.length) (hb : i < b.length) : cmpL cf (a.drop i) (b.drop i) = if cf a[i] b[i] = 0 then cmpL cf (a.drop (i + 1)) (b.drop (i + 1)) else cf a[i] b[i] := by
 rw [List.drop_eq_getElem_cons ha, List.drop_eq_getElem_cons hb, cmpL]
theorem cmpL_gt {α : Type} (cf : α → α → Int) (a b : List α) (i : Nat) (ha : i < a.length) (hb : b.length ≤ i) : cmpL cf (a.drop i) (b.drop i) = 1 := by
 rw [List.drop_eq_getElem_cons ha, List.drop_eq_nil_of_le hb, cmpL]
theorem cmpL_lt {α : Type} (cf : α → α → Int) (a b : List α) (i : Nat) (ha : a.length ≤ i) (hb : i < b.length) : cmpL cf (a.drop i) (b.drop i) = -1 := by
 rw [List.drop_eq_nil_of_le ha, List.drop_eq_getElem_cons hb, cmpL]
theorem cmpL_eq {α : Type} (cf : α → α → Int) (a b : List α) (i : Nat) (ha : a.length ≤ i) (hb : b.length ≤ i) : cmpL cf (a.drop i) (b.drop i) = 0 := by
 rw [List.drop_eq_nil_of_le ha, List.drop_eq_nil_of_le hb, cmpL]
theorem cmpL_zero {α : Type} (cf : α → α → Int) (h : ∀ x y, cf x y = 0 ↔ x = y) : ∀ (a b : List α), cmpL cf a b = 0 ↔ a = b
 | [], [] => by simp [cmpL]
 | [], _ :: _ => by simp [cmpL]
 | _ :: _, [] => by simp [cmpL]
 | x :: xs, y :: ys => by
  rw [cmpL]
  by_cases e : cf x y = 0
  ·rw [if_pos e, cmpL_zero cf h xs ys, (h x y).1 e]; simp
  ·rw [if_neg e]
   constructor
   ·intro h2; exact absurd h2 e
   ·intro h2; injection h2 with h3 _; exact absurd ((h x y).2 h3) e
theorem cmpI_zero (x y : Int) : cmpI x y = 0 ↔ x = y := by
 unfold cmpI
 split
 ·constructor
  ·intro h; cases h
  ·intro h; omega
 ·split
  ·constructor
   ·intro h; cases h
   ·intro h; omega
  ·constructor
   ·intro _; omega
   ·intro _; rfl

theorem cmp_isNaN.calls' (x : Int) (w : World) : Calls Try.prog 65 #[.int .i64 x] w fun e w' => e = .returned (.bool false) ∧ w = w' := by
 have h : (x != x) = false := by simp
 go_enter Try.func65, Try.ntmps65
 go_wp2
 go_ret
 exact ⟨by first | rfl | simp, rfl⟩
theorem cmp_Compare.calls' (x y : Int) (w : World) : Calls Try.prog 63 #[.int .i64 x, .int .i64 y] w fun e w' => e = .returned (.int .i64 (cmpI x y)) ∧ w = w' := by
 have HC := Aside0.mk (show cmpI x y = if x < y then -1 else if y < x then 1 else 0 from rfl)
 by_cases h1 : x < y
 ·have HE := Aside0.mk (show cmpI x y = -1 by rw [HC.out, if_pos h1])
  clear HC
  go_enter Try.func63, Try.ntmps63
  go_wp2_with (go_at_call 65; refine (cmp_isNaN.calls' _ _).mono ?_; rintro e w1 ⟨rfl, rfl⟩)
  go_ret
  exact ⟨by rw [HE.out]; rfl, rfl⟩
 ·by_cases h2 : y < x
  ·have HE := Aside0.mk (show cmpI x y = 1 by rw [HC.out, if_neg h1, if_pos h2])
   have h3 : x > y := h2
   clear HC
   go_enter Try.func63, Try.ntmps63
   go_wp2_with (go_at_call 65; refine (cmp_isNaN.calls' _ _).mono ?_; rintro e w1 ⟨rfl, rfl⟩)
   go_ret
   exact ⟨by rw [HE.out]; rfl, rfl⟩
  ·have HE := Aside0.mk (show cmpI x y = 0 by rw [HC.out, if_neg h1, if_neg h2])
   have h3 : ¬ x > y := h2
   clear HC
   go_enter Try.func63, Try.ntmps63
   go_wp2_with (go_at_call 65; refine (cmp_isNaN.calls' _ _).mono ?_; rintro e w1 ⟨rfl, rfl⟩)
   go_ret
   exact ⟨by rw [HE.out]; rfl, rfl⟩
set_option maxHeartbeats 2000000 in
theorem slices_Compare.calls' (A0 : Option Addr) (c0 : Nat) (a : List Int) (A1 : Option Addr) (c1 : Nat) (b : List Int) (w : World) (ha : Kd.C (Kd.int .i64) w A0 a.length a) (hb : Kd.C (Kd.int .i64) w A1 b.length b) :
  Calls Try.prog 56 #[.slice A0 a.length c0, .slice A1 b.length c1] w fun e w' => e = .returned (.int .i64 (cmpL cmpI a b)) ∧ w = w' := by
 have hma := ha.2.1
 have hmb := hb.2.1
 have HA := Aside0.mk ha
 have HB := Aside0.mk hb
 clear ha hb
 have HF := Aside0.mk (show cmpL cmpI a b = cmpL cmpI (a.drop 0) (b.drop 0) from rfl)
 obtain ⟨fin, hfin⟩ : ∃ z, z = cmpL cmpI a b := ⟨_, rfl⟩
 rw [← hfin] at HF ⊢
 clear hfin
 go_enter Try.func56, Try.ntmps56
 go_wp2
 go_loopg [5, 6, 7, 8, 11] a.length (fun gg s5 s6 s7 s8 s11 wr => ∃ i : Nat, i ≤ a.length ∧ i ≤ b.length ∧ a.length - i ≤ gg ∧ s11 = .int .i64 i ∧ Aside0 (fin = cmpL cmpI (a.drop i) (b.drop i)) ∧ w = wr)
 case atStart => exact ⟨0, Nat.zero_le _, Nat.zero_le _, Nat.le_refl _, rfl, HF, rfl⟩
 case round =>
  clear HF
  obtain ⟨i, hi, hi2, hg, rfl, HF, rfl⟩ := hrel
  by_cases hlt : i < a.length
  ·have hz : (i : Int) < (a.length : Int) := by omega
   obtain ⟨ad, e0, hx⟩ := Kd.at_int HA.out i (by omega) hz
   cases e0
   by_cases hlb : i < b.length
   ·have hzb : ¬ (i : Int) ≥ (b.length : Int) := by omega
    have hzb2 : (i : Int) < (b.length : Int) := by omega
    obtain ⟨ad2, e1, hy⟩ := Kd.at_int HB.out i (by omega) (by omega)
    cases e1
    simp only [Int.toNat_natCast] at hx hy
    have hst := cmpL_step cmpI a b i hlt hlb
    have ea : a[i] = rd a i := by simp [rd, List.getD_eq_getElem?_getD, hlt]
    have eb : b[i] = rd b i := by simp [rd, List.getD_eq_getElem?_getD, hlb]
    rw [ea, eb] at hst
    obtain ⟨x, hxx⟩ : ∃ z, z = rd a i := ⟨_, rfl⟩
    obtain ⟨y, hyy⟩ : ∃ z, z = rd b i := ⟨_, rfl⟩
    rw [← hxx] at hst hx
    rw [← hyy] at hst hy
    clear hxx hyy ea eb
    have HST := Aside0.mk hst
    clear hst
    have hcm := fun W => cmp_Compare.calls' x y W
    obtain ⟨c, hc⟩ : ∃ z, z = cmpI x y := ⟨_, rfl⟩
    rw [← hc] at HST hcm
    clear hc
    by_cases hc0 : c = 0
    ·have HE := Aside0.mk (show fin = cmpL cmpI (a.drop (i + 1)) (b.drop (i + 1)) by rw [HF.out, HST.out, if_pos hc0])
     subst hc0
     clear HST
     go_wp2_with (go_at_call 63; refine (hcm _).mono ?_; rintro e w1 ⟨rfl, rfl⟩)
     go_roundg (a.length - (i + 1))
     case measure => omega
     case rel => exact ⟨i + 1, by omega, by omega, by omega, by go_num, HE, rfl⟩
    ·have HE := Aside0.mk (show fin = c by rw [HF.out, HST.out, if_neg hc0])
     have hcn : (c != 0) = true := by rw [bne_iff_ne]; exact hc0
     clear HST
     go_wp2_with (go_at_call 63; refine (hcm _).mono ?_; rintro e w1 ⟨rfl, rfl⟩)
     go_ret
     exact ⟨by rw [HE.out]; rfl, rfl⟩
   ·have hzb : (i : Int) ≥ (b.length : Int) := by omega
    have HE := Aside0.mk (show fin = 1 by rw [HF.out, cmpL_gt cmpI a b i hlt (by omega)])
    simp only [Int.toNat_natCast] at hx
    go_wp2
    go_ret
    exact ⟨by rw [HE.out]; rfl, rfl⟩
  ·have hz : ¬ (i : Int) < (a.length : Int) := by omega
   by_cases hlb : a.length < b.length
   ·have hzb : (a.length : Int) < (b.length : Int) := by omega
    have HE := Aside0.mk (show fin = -1 by rw [HF.out, cmpL_lt cmpI a b i (by omega) (by omega)])
    go_wp2
    go_ret
    exact ⟨by rw [HE.out]; rfl, rfl⟩
   ·have hzb : ¬ (a.length : Int) < (b.length : Int) := by omega
    have HE := Aside0.mk (show fin = 0 by rw [HF.out, cmpL_eq cmpI a b i (by omega) (by omega)])
    go_wp2
    go_ret
    exact ⟨by rw [HE.out]; rfl, rfl⟩

set_option maxHeartbeats 4000000 in
theorem slices_CompareFunc_rows.calls (g : Nat) (lb : Array Value) (cf : List Int → List Int → Int) (A0 : Option Addr) (c0 : Nat) (a : List (List Int)) (A1 : Option Addr) (c1 : Nat) (b : List (List Int)) (w : World)
  (eg : ∀ args w, (callFunc g args).run Try.prog w = .ok (.enter g args) w)
  (hf : ∀ (x y : List Int) (A : Option Addr) (c : Nat) (A' : Option Addr) (c' : Nat) (W : World), Kd.C (Kd.int .i64) W A x.length x → Kd.C (Kd.int .i64) W A' y.length y → Gives Try.prog g (#[.slice A x.length c, .slice A' y.length c'] ++ lb) W (.int .i64 (cf x y)))
  (ha : Kd.C (Kd.slice 3 (Kd.int .i64)) w A0 a.length a) (hb : Kd.C (Kd.slice 3 (Kd.int .i64)) w A1 b.length b) :
  Calls Try.prog 54 #[.slice A0 a.length c0, .slice A1 b.length c1, .func (.func g) #[] lb] w fun e w' => e = .returned (.int .i64 (cmpL cf a b)) ∧ Below w.heap.size w w' := by
 have hma := ha.2.1
 have hmb := hb.2.1
 have HA := Aside0.mk ha
 have HB := Aside0.mk hb
 have HFN := Aside0.mk hf
 clear ha hb hf
 have HF := Aside0.mk (show cmpL cf a b = cmpL cf (a.drop 0) (b.drop 0) from rfl)
 have HW := Aside0.mk (Below.refl w.heap.size w)
 obtain ⟨fin, hfin⟩ : ∃ z, z = cmpL cf a b := ⟨_, rfl⟩
 rw [← hfin] at HF ⊢
 clear hfin
 go_enter Try.func54, Try.ntmps54
 go_wp2
 go_loopg [7, 8, 9, 10, 13] a.length (fun gg s7 s8 s9 s10 s13 wr => ∃ i : Nat, i ≤ a.length ∧ i ≤ b.length ∧ a.length - i ≤ gg ∧ s13 = .int .i64 i ∧ Aside0 (fin = cmpL cf (a.drop i) (b.drop i)) ∧ Aside0 (Below w.heap.size w wr))
 case atStart => exact ⟨0, Nat.zero_le _, Nat.zero_le _, Nat.le_refl _, rfl, HF, HW⟩
 case round =>
  clear HF HW
  obtain ⟨i, hi, hi2, hg, rfl, HF, HW⟩ := hrel
  by_cases hlt : i < a.length
  ·have hz : (i : Int) < (a.length : Int) := by omega
   obtain ⟨ad, Ax, cx, e0, hx, _, hrx⟩ := rowsAt HA.out i hlt
   cases e0
   replace hx := pw_cell_below HW.out hx
   by_cases hlb : i < b.length
   ·have hzb : ¬ (i : Int) ≥ (b.length : Int) := by omega
    have hzb2 : (i : Int) < (b.length : Int) := by omega
    obtain ⟨ad2, Ay, cy, e1, hy, _, hry⟩ := rowsAt HB.out i hlb
    cases e1
    replace hy := pw_cell_below HW.out hy
    have hst := cmpL_step cf a b i hlt hlb
    rw [← getD_at a [] i hlt, ← getD_at b [] i hlb] at hst
    have hcm := HFN.out (a.getD i []) (b.getD i []) Ax cx Ay cy wr (Kd.C_below hrx HW.out) (Kd.C_below hry HW.out)
    obtain ⟨x, hxx⟩ : ∃ z, z = a.getD i [] := ⟨_, rfl⟩
    obtain ⟨y, hyy⟩ : ∃ z, z = b.getD i [] := ⟨_, rfl⟩
    rw [← hxx] at hst hx hcm
    rw [← hyy] at hst hy hcm
    clear hxx hyy hrx hry
    have HST := Aside0.mk hst
    clear hst
    obtain ⟨c, hc⟩ : ∃ z, z = cf x y := ⟨_, rfl⟩
    rw [← hc] at HST hcm
    clear hc
    by_cases hc0 : c = 0
    ·have HE := Aside0.mk (show fin = cmpL cf (a.drop (i + 1)) (b.drop (i + 1)) by rw [HF.out, HST.out, if_pos hc0])
     subst hc0
     clear HST
     go_wp2_with (go_at_fn g; refine hcm.mono ?_; rintro e w1 ⟨rfl, hb⟩; have HW1 := Aside0.mk (below_step HW.out hb); clear hb)
     go_roundg (a.length - (i + 1))
     case measure => omega
     case rel => exact ⟨i + 1, by omega, by omega, by omega, by go_num, HE, HW1⟩
    ·have HE := Aside0.mk (show fin = c by rw [HF.out, HST.out, if_neg hc0])
     have hcn : (c != 0) = true := by rw [bne_iff_ne]; exact hc0
     clear HST
     go_wp2_with (go_at_fn g; refine hcm.mono ?_; rintro e w1 ⟨rfl, hb⟩; have HW1 := Aside0.mk (below_step HW.out hb); clear hb)
     go_ret
     exact ⟨by rw [HE.out]; rfl, HW1.out⟩
   ·have hzb : (i : Int) ≥ (b.length : Int) := by omega
    have HE := Aside0.mk (show fin = 1 by rw [HF.out, cmpL_gt cf a b i hlt (by omega)])
    go_wp2
    go_ret
    exact ⟨by rw [HE.out]; rfl, HW.out⟩
  ·have hz : ¬ (i : Int) < (a.length : Int) := by omega
   by_cases hlb : a.length < b.length
   ·have hzb : (a.length : Int) < (b.length : Int) := by omega
    have HE := Aside0.mk (show fin = -1 by rw [HF.out, cmpL_lt cf a b i (by omega) (by omega)])
    go_wp2
    go_ret
    exact ⟨by rw [HE.out]; rfl, HW.out⟩
   ·have hzb : ¬ (a.length : Int) < (b.length : Int) := by omega
    have HE := Aside0.mk (show fin = 0 by rw [HF.out, cmpL_eq cf a b i (by omega) (by omega)])
    go_wp2
    go_ret
    exact ⟨by rw [HE.out]; rfl, HW.out⟩
/-- The order of two tables. -/
def cmpT (a b : List (List Int)) : Int := cmpL (cmpL cmpI) a b
theorem cmpT_zero (a b : List (List Int)) : cmpT a b = 0 ↔ a = b := cmpL_zero _ (cmpL_zero _ cmpI_zero) a b
theorem compareTables_1.calls (x y : List Int) (A : Option Addr) (c : Nat) (A' : Option Addr) (c' : Nat) (W : World) (hx : Kd.C (Kd.int .i64) W A x.length x) (hy : Kd.C (Kd.int .i64) W A' y.length y) :
  Gives Try.prog 55 #[.slice A x.length c, .slice A' y.length c'] W (.int .i64 (cmpL cmpI x y)) := by
 unfold Gives
 have hcm := slices_Compare.calls' A c x A' c' y W hx hy
 clear hx hy
 go_enter Try.func55, Try.ntmps55
 go_wp2_with (go_at_call 56; refine hcm.mono ?_; rintro e w1 ⟨rfl, rfl⟩)
 go_ret
 exact ⟨rfl, Below.refl _ _⟩
theorem impl_compareTables.calls' (A0 : Option Addr) (c0 : Nat) (a : List (List Int)) (A1 : Option Addr) (c1 : Nat) (b : List (List Int)) (w : World)
  (ha : Kd.C (Kd.slice 3 (Kd.int .i64)) w A0 a.length a) (hb : Kd.C (Kd.slice 3 (Kd.int .i64)) w A1 b.length b) :
  Calls Try.prog 37 #[.slice A0 a.length c0, .slice A1 b.length c1] w fun e w' => e = .returned (.int .i64 (cmpT a b)) ∧ Below w.heap.size w w' := by
 have hcm := slices_CompareFunc_rows.calls 55 #[] (cmpL cmpI) A0 c0 a A1 c1 b w (enters_of Try.func55 (by kernel_rfl) rfl) (fun x y A c A' c' W hx hy => compareTables_1.calls x y A c A' c' W hx hy) ha hb
 clear ha hb
 have HT := Aside0.mk (show cmpT a b = cmpL (cmpL cmpI) a b from rfl)
 obtain ⟨r, hr⟩ : ∃ z, z = cmpL (cmpL cmpI) a b := ⟨_, rfl⟩
 rw [← hr] at hcm HT
 clear hr
 go_enter Try.func37, Try.ntmps37
 go_wp2_with (go_at_call 54; refine hcm.mono ?_; rintro e w1 ⟨rfl, hb⟩)
 go_ret
 exact ⟨by rw [HT.out]; rfl, hb⟩
end Go.Proofs.Ytbihfdadnkmckaa

namespace Go.Proofs.Ytbihfdadnkmckaa
open Go.RowKit Go.Proofs.YtbihfdadnkmckaaW.PrintWords Go.Proofs.YtbihfdadnkmckaaW.PrintLast Go.Proofs.YtbihfdadnkmckaaW.PrintMore
set_option linter.unusedVariables false
set_option linter.unusedSimpArgs false

/-- The sum before a point, out of the edges across. -/
def befF (a : List (List Int)) (i j : Nat) : Int := ((i : Int) + j + 1 - rd (a.getD i []) j).tmod 2
/-- The number of a point. -/
def numF (a : List (List Int)) (i j : Nat) : Int := befF a i (j + 1) - befF a i j
def BoxS (W : World) (gb : Nat) (n : Int) (Aa : Option Addr) (la ca : Nat) (Ad : Option Addr) (ld cd : Nat) : Prop := W.heap[gb]? = some (.cells #[.int .i64 n, .slice Aa la ca, .slice Ad ld cd] 25 (0, 0))
theorem fromLoops_1.calls (n : Int) (a : List (List Int)) (i j gb : Nat) (Aa : Option Addr) (ca : Nat) (Ad : Option Addr) (ld cd : Nat) (W : World) (hb : BoxS W gb n Aa a.length ca Ad ld cd) (hC : Kd.C (Kd.slice 3 (Kd.int .i64)) W Aa a.length a) (hi : i < a.length) (hj : j < (a.getD i []).length) (hi6 : i ≤ 100) (hj6 : j ≤ 100) (h01 : 0 ≤ rd (a.getD i []) j ∧ rd (a.getD i []) j ≤ 1) :
  Gives Try.prog 34 #[.int .i64 i, .int .i64 j, .pointer (some ⟨gb, 0, none⟩)] W (.int .i64 (befF a i j)) := by
 unfold Gives
 obtain ⟨ad, Ar, cr, e0, hx, hc, hrow⟩ := rowsAt hC i hi
 cases e0
 obtain ⟨ar, e0, hy⟩ := Kd.at_int hrow (j : Int) (by omega) (by omega)
 cases e0
 rw [Int.toNat_natCast] at hy
 obtain ⟨x, hxx⟩ : ∃ x, x = rd (a.getD i []) j := ⟨_, rfl⟩
 rw [← hxx] at hy h01
 have HX := Aside0.mk hxx
 have hb1 : W.cell? ⟨gb, 1, none⟩ = some (.slice (some ad) a.length ca) := (blk_cell hb 1).trans rfl
 have hzi : (i : Int) < (a.length : Int) := by omega
 obtain ⟨L, hL⟩ : ∃ L, L = (a.getD i []).length := ⟨_, rfl⟩
 rw [← hL] at hx hj
 have hzj : (j : Int) < (L : Int) := by omega
 have hu := Try.underlying25
 have h1 : IntKind.i64.wrap ((i : Int) + j) = (i : Int) + j := IntWalk.i64_in _ ⟨by omega, by omega⟩
 have h2 : IntKind.i64.wrap ((i : Int) + j + 1) = (i : Int) + j + 1 := IntWalk.i64_in _ ⟨by omega, by omega⟩
 have h3 : IntKind.i64.wrap ((i : Int) + j + 1 - x) = (i : Int) + j + 1 - x := IntWalk.i64_in _ ⟨by omega, by omega⟩
 have h4 : 0 ≤ (i : Int) + j + 1 - x := by omega
 have HE := Aside0.mk (show befF a i j = ((i : Int) + j + 1 - x).tmod 2 by unfold befF; rw [HX.out])
 clear hb hC hrow hc hxx hL
 go_enter Try.func34, Try.ntmps34
 go_wp2
 go_ret
 exact ⟨by rw [HE.out, Int.tmod_eq_emod_of_nonneg h4]; rfl, Below.refl _ _⟩
theorem befF_01 (a : List (List Int)) (i j : Nat) (h01 : 0 ≤ rd (a.getD i []) j ∧ rd (a.getD i []) j ≤ 1) : 0 ≤ befF a i j ∧ befF a i j ≤ 1 := by
 unfold befF
 rw [Int.tmod_eq_emod_of_nonneg (by omega)]
 omega
set_option maxHeartbeats 400000 in
theorem fromLoops_2.calls (n : Int) (a : List (List Int)) (i j gb b5 : Nat) (Aa : Option Addr) (ca : Nat) (Ad : Option Addr) (ld cd : Nat) (W : World) (hb : BoxS W gb n Aa a.length ca Ad ld cd) (hC : Kd.C (Kd.slice 3 (Kd.int .i64)) W Aa a.length a) (hi : i < a.length) (hj : j + 1 < (a.getD i []).length) (hi6 : i ≤ 90) (hj6 : j ≤ 90) (h01 : ∀ q : Nat, q < (a.getD i []).length → 0 ≤ rd (a.getD i []) q ∧ rd (a.getD i []) q ≤ 1)
  (h5 : W.cell? ⟨b5, 0, none⟩ = some (.func (.func 34) #[] #[.pointer (some ⟨gb, 0, none⟩)])) :
  Gives Try.prog 36 #[.int .i64 i, .int .i64 j, .pointer (some ⟨b5, 0, none⟩)] W (.int .i64 (numF a i j)) := by
 have eg : ∀ args w, (callFunc 34 args).run Try.prog w = .ok (.enter 34 args) w := enters_of Try.func34 (by kernel_rfl) rfl
 unfold Gives
 obtain ⟨p0, p1⟩ := befF_01 a i j (h01 j (by omega))
 obtain ⟨q0, q1⟩ := befF_01 a i (j + 1) (h01 (j + 1) hj)
 have H0 := Aside0.mk (fun W' (hbw : Below W.heap.size W W') => show Calls Try.prog 34 #[.int .i64 i, .int .i64 (j : Nat), .pointer (some ⟨gb, 0, none⟩)] W' (fun e W'' => e = .returned (.int .i64 (befF a i (j))) ∧ Below W'.heap.size W' W'') from fromLoops_1.calls n a i j gb Aa ca Ad ld cd W' (blk_below hb hbw) (Kd.C_below hC hbw) hi (by omega) (by omega) (by omega) (h01 j (by omega)))
 have H1 := Aside0.mk (fun W' (hbw : Below W.heap.size W W') => show Calls Try.prog 34 #[.int .i64 i, .int .i64 (j + 1 : Nat), .pointer (some ⟨gb, 0, none⟩)] W' (fun e W'' => e = .returned (.int .i64 (befF a i (j + 1))) ∧ Below W'.heap.size W' W'') from fromLoops_1.calls n a i (j + 1) gb Aa ca Ad ld cd W' (blk_below hb hbw) (Kd.C_below hC hbw) hi hj (by omega) (by omega) (h01 (j + 1) hj))
 have HE := Aside0.mk (show numF a i j = befF a i (j + 1) - befF a i j from rfl)
 obtain ⟨x, hx⟩ : ∃ x, x = befF a i j := ⟨_, rfl⟩
 obtain ⟨y, hy⟩ : ∃ y, y = befF a i (j + 1) := ⟨_, rfl⟩
 rw [← hx] at p0 p1 H0 HE
 rw [← hy] at q0 q1 H1 HE
 rw [show (((j + 1 : Nat)) : Int) = (j : Int) + 1 by omega] at H1
 have h1 : IntKind.i64.wrap (y - x) = y - x := IntWalk.i64_in _ ⟨by omega, by omega⟩
 have h2 : IntKind.i64.wrap ((j : Int) + 1) = (j : Int) + 1 := IntWalk.i64_in _ ⟨by omega, by omega⟩
 have HBC := Aside0.mk (Below.refl W.heap.size W)
 clear hb hC h01 hi hj hx hy
 go_enter Try.func36, Try.ntmps36
 go_wp2
 go_region_held3 (fun W1 => W1.cell? ⟨b5, 0, none⟩ = some (.func (.func 34) #[] #[.pointer (some ⟨gb, 0, none⟩)])) (first | exact h5 | exact hq1) (first
  | (go_at_fn 34; (with_reducible refine (H1.out _ ?hbY).mono ?_); (case hbY => exact (by repeat (first | exact HBC.out | refine below_drew ?_))); rintro e w2 ⟨rfl, hb2⟩; have m_ := fun h => Aside0.mk (Below.trans (B := W.heap.size) h (hb2.mono (Below.size h))); have n_ := m_ (by repeat (first | exact HBC.out | refine below_drew ?_)); clear HBC m_; have HBC := n_; clear n_; (try clear hq1); have hq1 := pw_cell_below HBC.out h5; clear hb2)
  | (go_at_fn 34; (with_reducible refine (H0.out _ ?hbY).mono ?_); (case hbY => exact (by repeat (first | exact HBC.out | refine below_drew ?_))); rintro e w2 ⟨rfl, hb2⟩; have m_ := fun h => Aside0.mk (Below.trans (B := W.heap.size) h (hb2.mono (Below.size h))); have n_ := m_ (by repeat (first | exact HBC.out | refine below_drew ?_)); clear HBC m_; have HBC := n_; clear n_; (try clear hq1); have hq1 := pw_cell_below HBC.out h5; clear hb2))
 all_goals
  go_wp2
  go_ret
  exact ⟨by rw [HE.out]; rfl, HBC.out⟩
end Go.Proofs.Ytbihfdadnkmckaa
