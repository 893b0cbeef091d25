/- Walks: ToggleCells of both sides. -/
import Derived.Test.YtflhhbpgkjpbdaaLB
import Derived.Test.YtflhhbpgkjpbdaaHA
import Derived.Test.YtflhhbpgkjpbdaaPx66
namespace Go.Proofs.Ytflhhbpgkjpbdaa
open Go.RowKit Go.Proofs.Ytflhhbpgkjpbdaa.P Go.Proofs.Ytflhhbpgkjpbdaa.L Go.Proofs.YtflhhbpgkjpbdaaW.PrintWords Go.Proofs.YtflhhbpgkjpbdaaW.PrintLast Go.Proofs.YtflhhbpgkjpbdaaW.PrintMore
set_option linter.unusedVariables false
set_option linter.unusedSimpArgs false

/-- Is a row a cell of a matrix with n rows? -/
def inC (n : Nat) (a b : Int) : Bool := inB a 1 ((n : Int) - 1) && inB b 1 ((n : Int) - 1)
def cellB (n : Nat) (r : List Int) : Bool := (r.length == 2) && inC n (rd r 0) (rd r 1)
theorem cellB_row {n : Nat} {r : List Int} (h : cellB n r = true) : cellRow n r := by
  unfold cellB inC at h
  simp only [Bool.and_eq_true] at h
  obtain ⟨h1, h2, h3⟩ := h
  have a := (inB_iff _ _ _).1 h2
  have b := (inB_iff _ _ _).1 h3
  exact ⟨beq_iff_eq.1 h1, by omega, by omega, by omega, by omega⟩
def cellsB (n : Nat) (L : List (List Int)) : Bool := decide (L.length ≤ 200) && L.all fun r => cellB n r
def togR (l L : List (List Int)) : List (List Int) := if (isSign l && cellsB l.length L) = true then toggledT l (L.map toCell) else []
theorem impl_isCell.calls' (n : Nat) (a b : Int) (w : World) (hn : n ≤ 1000) :
    Calls Try.prog 116 #[.int .i64 n, .int .i64 a, .int .i64 b] w fun e w' => e = .returned (.bool (inC n a b)) ∧ Drawn0 w w' := by
  have h1 := fun W => impl_within.calls a 1 ((n : Int) - 1) (inB a 1 ((n : Int) - 1)) W rfl
  have h2 := fun W => impl_within.calls b 1 ((n : Int) - 1) (inB b 1 ((n : Int) - 1)) W rfl
  have HE := Aside0.mk (show inC n a b = (inB a 1 ((n : Int) - 1) && inB b 1 ((n : Int) - 1)) from rfl)
  generalize inB b 1 ((n : Int) - 1) = r2 at h2 HE
  cases h : inB a 1 ((n : Int) - 1) with
  | false =>
    rw [h] at h1 HE
    clear h
    go_enter Try.func116, Try.ntmps116
    go_wp2_with (go_at_call 82; (with_reducible refine (h1 _).mono ?_); rintro e w' ⟨rfl, ⟨nd, rfl⟩⟩)
    go_ret
    exact ⟨by rw [HE.out]; rfl, by repeat (first | exact Drawn0.refl _ | apply Drawn0.step)⟩
  | true =>
    rw [h] at h1 HE
    clear h
    go_enter Try.func116, Try.ntmps116
    go_wp2_with (first | (go_at_call 82; (with_reducible refine (h1 _).mono ?_); rintro e w' ⟨rfl, ⟨nd, rfl⟩⟩) | (go_at_call 82; (with_reducible refine (h2 _).mono ?_); rintro e w'' ⟨rfl, ⟨nd2, rfl⟩⟩))
    go_ret
    exact ⟨by rw [HE.out]; first | rfl | simp, by repeat (first | exact Drawn0.refl _ | apply Drawn0.step)⟩
theorem heCell_eq (n : Nat) (a b : Int) (hn : n ≤ 1000) : spec_heCell.f n a b = some (inC n a b) := by
  unfold spec_heCell.f inC
  rw [wrapI ((n : Int) - 1) (by omega) (by omega), l1In_eq, l1In_eq]
  cases inB a 1 ((n : Int) - 1) <;> simp
set_option maxHeartbeats 4000000 in
theorem areCells_1.calls (x : List Int) (n : Nat) (hn : n ≤ 1000) (A : Option Addr) (c b : Nat) (W : World) (hx : Kd.C (Kd.int .i64) W A x.length x) (h : W.cell? ⟨b, 0, none⟩ = some (.int .i64 n)) :
    Gives Try.prog 115 #[.slice A x.length c, .pointer (some ⟨b, 0, none⟩)] W (.bool (!(cellB n x))) := by
  unfold Gives
  have hm := hx.2.1
  by_cases he : x.length = 2
  · obtain ⟨ad, e0, hy0⟩ := Kd.at_int hx (0 : Nat) (by omega) (by omega)
    cases e0
    obtain ⟨ad', e0, hy1⟩ := Kd.at_int hx ((0 + 1 : Nat) : Int) (by omega) (by omega)
    cases e0
    simp only [Int.toNat_natCast] at hy0 hy1
    replace hy0 : W.cell? ad = some (.int .i64 (rd x 0)) := by rw [addr_zero] at hy0; exact hy0
    replace hy1 : W.cell? { ad with off := ad.off + (0 + 1), spot := none } = some (.int .i64 (rd x 1)) := by rw [Addr.add_succ'] at hy1; exact hy1
    have HE := Aside0.mk (show cellB n x = inC n (rd x 0) (rd x 1) by unfold cellB; rw [beq_iff_eq.2 he]; rfl)
    have hc := fun W' => impl_isCell.calls' n (rd x 0) (rd x 1) W' hn
    obtain ⟨a0, ha0⟩ : ∃ z, z = rd x 0 := ⟨_, rfl⟩
    obtain ⟨a1, ha1⟩ : ∃ z, z = rd x 1 := ⟨_, rfl⟩
    rw [← ha0] at hy0 hc HE
    rw [← ha1] at hy1 hc HE
    have h2 : ((x.length : Int) != 2) = false := by simp [he]
    have hl0 : (0 : Int) < (x.length : Int) := by omega
    have hl1 : (1 : Int) < (x.length : Int) := by omega
    obtain ⟨r, hr⟩ : ∃ z, z = inC n a0 a1 := ⟨_, rfl⟩
    rw [← hr] at hc HE
    rw [he]
    clear hx ha0 ha1 hr he h2 hl0 hl1
    go_enter Try.func115, Try.ntmps115
    go_wp2
    go_region_held3 (fun W1 => W1.cell? ⟨b, 0, none⟩ = some (.int .i64 n) ∧ W1.cell? ad = some (.int .i64 a0) ∧ W1.cell? { ad with off := ad.off + (0 + 1), spot := none } = some (.int .i64 a1) ∧ Below W.heap.size W W1) (first | (refine ⟨by simp [*], by simp [*], by simp [*], ?_⟩; repeat (first | assumption | exact Below.refl _ _ | apply below_drew | apply pw_below_drewN))) (first | (go_at_call 116; (with_reducible refine (hc _).mono ?_); rintro e w2 ⟨rfl, ⟨nd, rfl⟩⟩))
    all_goals
      go_wp2
      go_ret
      exact ⟨by rw [HE.out]; first | rfl | simp, by repeat (first | assumption | exact Below.refl _ _ | apply below_drew | apply pw_below_drewN)⟩
  · have h2 : ((x.length : Int) != 2) = true := by rw [bne_iff_ne]; omega
    have HE := Aside0.mk (show cellB n x = false by unfold cellB; rw [beq_eq_false_iff_ne.2 he]; rfl)
    clear hx he
    go_enter Try.func115, Try.ntmps115
    go_wp2
    go_region
    all_goals
      go_wp2
      go_ret
      exact ⟨by rw [HE.out]; first | rfl | simp, by repeat (first | exact Below.refl _ _ | apply below_drew | apply pw_below_drewN)⟩
set_option maxHeartbeats 2000000 in
theorem impl_areCells.callsG (n : Nat) (hn : n ≤ 1000) (A0 : Option Addr) (c0 : Nat) (l0 : List (List Int)) (w : World) (hr0 : Kd.C (Kd.slice 3 (Kd.int .i64)) w A0 l0.length l0) (hc0 : l0.length ≤ c0) :
    Calls Try.prog 69 #[.int .i64 n, .slice A0 l0.length c0] w fun e w' => e = .returned (.bool (cellsB n l0)) ∧ Below w.heap.size w w' := by
  have eg : ∀ args w, (callFunc 115 args).run Try.prog w = .ok (.enter 115 args) w := enters_of Try.func115 (by kernel_rfl) rfl
  have hB2 : Below w.heap.size w (w.alloc (.cells #[.int .i64 n] 3)) := below_alloc (Below.refl _ _) _
  have hx : (w.alloc (.cells #[.int .i64 n] 3)).cell? ⟨w.heap.size, 0, none⟩ = some (.int .i64 n) := by rw [World.cell?_alloc_at _ _ _ _ rfl]; rfl
  have hcon := slices_ContainsFunc_rows.calls 115 #[.pointer (some ⟨w.heap.size, 0, none⟩)] (fun x => !(cellB n x)) A0 c0 l0 (w.alloc (.cells #[.int .i64 n] 3)) eg
    (fun x A c W _ hb hcx _ => areCells_1.calls x n hn A c _ W hcx (pw_cell_below hb hx))
    (Kd.C_below hr0 hB2) hc0
  have hall : (l0.all fun r => cellB n r) = !(l0.any fun x => !(cellB n x)) := all_any l0 _
  have hm := hr0.2.1
  have HE := Aside0.mk (show cellsB n l0 = (decide (l0.length ≤ 200) && l0.all fun r => cellB n r) from rfl)
  rw [hall] at HE
  clear hr0 hall
  generalize (l0.any fun x => !(cellB n x)) = r at hcon HE
  have HB := Aside0.mk hB2
  clear hB2
  by_cases h2 : l0.length ≤ 200
  · have hz : (l0.length : Int) ≤ 200 := by omega
    have HE2 := Aside0.mk (show cellsB n l0 = !r by rw [HE.out, decide_eq_true h2, Bool.true_and])
    go_enter Try.func69, Try.ntmps69
    go_wp2_with (go_at_call 114; refine hcon.mono ?_; rintro e w' ⟨rfl, hb⟩)
    go_ret
    exact ⟨by rw [HE2.out]; first | rfl | simp, below_then HB.out HB.out.size hb⟩
  · have hz : ¬ (l0.length : Int) ≤ 200 := by omega
    have HE2 := Aside0.mk (show cellsB n l0 = false by rw [HE.out, decide_eq_false h2, Bool.false_and])
    go_enter Try.func69, Try.ntmps69
    go_wp2
    go_ret
    exact ⟨by rw [HE2.out]; first | rfl | simp, HB.out⟩
set_option maxHeartbeats 2000000 in
theorem impl_ToggleCells.callsG (A0 : Option Addr) (c0 : Nat) (l0 : List (List Int)) (A1 : Option Addr) (c1 : Nat) (L : List (List Int)) (w : World) (hr0 : Kd.C (Kd.slice 3 (Kd.int .i64)) w A0 l0.length l0) (hc0 : l0.length ≤ c0) (hr1 : Kd.C (Kd.slice 3 (Kd.int .i64)) w A1 L.length L) (hc1 : L.length ≤ c1) :
    Calls Try.prog 24 #[.slice A0 l0.length c0, .slice A1 L.length c1] w (RetT w (togR l0 L) (isSign l0 && cellsB l0.length L)) := by
  have hsg := impl_IsSignMatrix.calls' A0 c0 l0 w hr0 hc0
  have HD := Aside0.mk (show togR l0 L = if (isSign l0 && cellsB l0.length L) = true then toggledT l0 (L.map toCell) else [] from rfl)
  cases hs : isSign l0 with
  | false =>
    rw [hs] at hsg
    have HE := Aside0.mk (show togR l0 L = [] by rw [HD.out, hs]; rfl)
    clear HD hs hr0 hc0 hr1 hc1
    go_enter Try.func24, Try.ntmps24
    go_wp2_with (go_at_call 59; refine hsg.mono ?_; rintro e w1 ⟨rfl, hb⟩)
    go_ret2
    exact ⟨_, rfl, by rw [HE.out]; exact Kd.S_nil _ _ _ _ _, hb⟩
  | true =>
    rw [hs] at hsg
    have h6 := (isSign_facts hs).2.1
    have HAR := Aside0.mk (fun (W : World) (hb : Below w.heap.size w W) => impl_areCells.callsG l0.length (by omega) A1 c1 L W (Kd.C_below hr1 hb) hc1)
    cases hx : cellsB l0.length L with
    | false =>
      rw [hx] at HAR
      have HE := Aside0.mk (show togR l0 L = [] by rw [HD.out, hs, hx]; rfl)
      clear HD hs hr0 hc0 hr1 hc1 hx
      go_enter Try.func24, Try.ntmps24
      go_wp2_with (first | (go_at_call 59; refine hsg.mono ?_; rintro e w1 ⟨rfl, hb⟩; have HB := Aside0.mk hb; clear hb) | (go_at_call 69; refine (HAR.out _ HB.out).mono ?_; rintro e w2 ⟨rfl, hb⟩; have HB2 := Aside0.mk (below_step HB.out hb); clear hb))
      go_ret2
      exact ⟨_, rfl, by rw [HE.out]; exact Kd.S_nil _ _ _ _ _, HB2.out⟩
    | true =>
      rw [hx] at HAR
      have HE := Aside0.mk (show togR l0 L = toggledT l0 (L.map toCell) by rw [HD.out, hs, hx]; rfl)
      have hcl := hx
      unfold cellsB at hcl
      rw [Bool.and_eq_true] at hcl
      have hl2 := of_decide_eq_true hcl.1
      have HA := Aside0.mk (fun (W : World) (hb : Below w.heap.size w W) => impl_toggled.callsG A0 c0 l0 A1 c1 L W hs (fun r hr => cellB_row (List.all_eq_true.1 hcl.2 r hr)) (by omega) (Kd.C_below hr0 hb) hc0 (Kd.C_below hr1 hb) hc1)
      clear HD hs hr0 hc0 hr1 hc1 hx hcl hl2
      go_enter Try.func24, Try.ntmps24
      go_wp2_with (first | (go_at_call 59; refine hsg.mono ?_; rintro e w1 ⟨rfl, hb⟩; have HB := Aside0.mk hb; clear hb) | (go_at_call 69; refine (HAR.out _ HB.out).mono ?_; rintro e w2 ⟨rfl, hb⟩; have HB2 := Aside0.mk (below_step HB.out hb); clear hb) | (go_at_call 70; refine (HA.out _ HB2.out).mono ?_; rintro e w3 ⟨v, rfl, hS, hb⟩; have HS3 := Aside0.mk (Kd.S_lower hS HB2.out.size); have HB3 := Aside0.mk (below_step HB2.out hb); clear hS hb))
      go_ret2
      exact ⟨_, rfl, by rw [HE.out]; exact HS3.out, HB3.out⟩
theorem KS.below_ {w w1 : World} {B n g c : Nat} {h : Nat → Nat → Int} (k : KS w B n g c h) (hb : Below w.heap.size w w1) : KS w1 B n g c h := Kd.S_below k hb
set_option maxHeartbeats 8000000 in
theorem spec_ToggleCells.callsG (A0 : Option Addr) (c0 : Nat) (l0 : List (List Int)) (A1 : Option Addr) (c1 : Nat) (L : List (List Int)) (w : World) (hf : fewRows l0) (hr0 : Kd.C (Kd.slice 3 (Kd.int .i64)) w A0 l0.length l0) (hc0 : l0.length ≤ c0) (hr1 : Kd.C (Kd.slice 3 (Kd.int .i64)) w A1 L.length L) (hc1 : L.length ≤ c1) :
    Calls Try.prog 23 #[.slice A0 l0.length c0, .slice A1 L.length c1] w (RetT w (togR l0 L) (isSign l0 && cellsB l0.length L)) := by
  have hsg := sgGood_calls l0 hf A0 c0 w hr0 hc0
  have HD := Aside0.mk (show togR l0 L = if (isSign l0 && cellsB l0.length L) = true then toggledT l0 (L.map toCell) else [] from rfl)
  have hm := hr1.2.1
  cases hs : isSign l0 with
  | false =>
    rw [hs] at hsg
    have HE := Aside0.mk (show togR l0 L = [] by rw [HD.out, hs]; rfl)
    clear HD hs hr0 hc0 hr1 hc1
    go_enter Try.func23, Try.ntmps23
    go_wp2_with (go_at_call 54; refine hsg.mono ?_; rintro e w1 ⟨rfl, hb⟩)
    go_ret2
    exact ⟨_, rfl, by rw [HE.out]; exact Kd.S_nil _ _ _ _ _, hb⟩
  | true =>
    rw [hs] at hsg
    by_cases h200 : L.length ≤ 200
    · have hz200 : ¬ (L.length : Int) > 200 := by omega
      obtain ⟨h1, h2, _, _⟩ := isSign_facts hs
      have H := sign_HOK hs
      have HH := Aside0.mk H
      have HR1 := Aside0.mk hr1
      obtain ⟨k, hk⟩ := (heOf_ev l0 (sign_small hs)).rounds
      have hhe := Aside0.mk (fun (W : World) (hb : Below w.heap.size w W) => spec_heOf.calls k A0 c0 l0 _ W (Kd.C_below hr0 hb) hc0 hk)
      have HLN := Aside0.mk (show 0 < (heightsM l0).length by rw [heightsM, tableL_length]; omega)
      have HHL := Aside0.mk (show (heightsM l0).length = l0.length + 1 by rw [heightsM, tableL_length])
      obtain ⟨n, hn⟩ : ∃ n, n = l0.length := ⟨_, rfl⟩
      have HCB := Aside0.mk (show cellsB n L = L.all fun r => cellB n r by unfold cellsB; rw [decide_eq_true h200, Bool.true_and])
      have HTG := Aside0.mk (show toggledT l0 (L.map toCell) = fromT (togs (hF l0) (L.map toCell)) n by rw [hn]; rfl)
      obtain ⟨h0, hh0⟩ : ∃ h, h = hF l0 := ⟨_, rfl⟩
      rw [← hn] at hsg HHL HH h1 h2 HD
      rw [← hh0] at HH HTG
      have HM := Aside0.mk (show heightsM l0 = tableL h0 (n + 1) (n + 1) by rw [heightsM, hn, hh0])
      have hhe2 : Aside0 (∀ (W : World), Below w.heap.size w W → Calls Try.prog 56 #[.slice A0 n c0] W (RetS W (heightsM l0))) := ⟨fun W hb => by rw [hn]; exact hhe.out W hb⟩
      have HSG := Aside0.mk hs
      clear hr0 hc0 hk H hh0 hhe hr1 hc1 hs
      rw [← hn]
      clear hn
      have hcl := fun (a b : Int) W => spec_heCell.calls n a b _ W (heCell_eq n a b (by omega))
      go_enter Try.func23, Try.ntmps23
      go_wp2_with (first | (go_at_call 54; refine hsg.mono ?_; rintro e w1 ⟨rfl, hb⟩; have HB := Aside0.mk hb; clear hb))
      go_loopg [7, 21] L.length (fun gg s7 s21 wr => ∃ i : Nat, i ≤ L.length ∧ L.length - i ≤ gg ∧ s21 = .int .i64 i ∧ Aside0 (((L.take i).all fun r => cellB n r) = true) ∧ Aside0 (Below w.heap.size w wr))
      case atStart => exact ⟨0, Nat.zero_le _, Nat.le_refl _, rfl, ⟨rfl⟩, HB⟩
      case round =>
        clear HB
        obtain ⟨i, hi, hg, rfl, HAL, HB⟩ := hrel
        by_cases hlt : i < L.length
        · have hz : (i : Int) < (L.length : Int) := by omega
          obtain ⟨ad, Ar, cr, e0, hx, _, hrow⟩ := rowsAt HR1.out i hlt
          cases e0
          replace hx := pw_cell_below HB.out hx
          have HNX := Aside0.mk (show ((L.take (i + 1)).all fun r => cellB n r) = (((L.take i).all fun r => cellB n r) && cellB n (L.getD i [])) by rw [List.take_succ_eq_append_getElem hlt, List.all_append, getD_at L [] i hlt]; simp)
          have HIN := Aside0.mk (fun (h : cellB n (L.getD i []) = false) => show cellsB n L = false by
            rw [HCB.out]
            cases hq : L.all fun r => cellB n r with
            | false => rfl
            | true =>
              have := List.all_eq_true.1 hq L[i] (List.getElem_mem hlt)
              rw [getD_at L [] i hlt] at h
              rw [this] at h; cases h)
          obtain ⟨row, hrw⟩ : ∃ r, r = L.getD i [] := ⟨_, rfl⟩
          rw [← hrw] at hx hrow HNX HIN
          clear hrw
          by_cases he : row.length = 2
          · obtain ⟨ar, e0, hy0⟩ := Kd.at_int hrow (0 : Nat) (by omega) (by omega)
            cases e0
            obtain ⟨ar', e0, hy1⟩ := Kd.at_int hrow ((0 + 1 : Nat) : Int) (by omega) (by omega)
            cases e0
            simp only [Int.toNat_natCast] at hy0 hy1
            replace hy0 : w.cell? ar = some (.int .i64 (rd row 0)) := by rw [addr_zero] at hy0; exact hy0
            replace hy1 : w.cell? { ar with off := ar.off + (0 + 1), spot := none } = some (.int .i64 (rd row 1)) := by rw [Addr.add_succ'] at hy1; exact hy1
            replace hy0 := pw_cell_below HB.out hy0
            replace hy1 := pw_cell_below HB.out hy1
            have HE := Aside0.mk (show cellB n row = inC n (rd row 0) (rd row 1) by unfold cellB; rw [beq_iff_eq.2 he]; rfl)
            have hc := hcl (rd row 0) (rd row 1)
            obtain ⟨a0, ha0⟩ : ∃ z, z = rd row 0 := ⟨_, rfl⟩
            obtain ⟨a1, ha1⟩ : ∃ z, z = rd row 1 := ⟨_, rfl⟩
            rw [← ha0] at hy0 hc HE
            rw [← ha1] at hy1 hc HE
            have h2' : ((row.length : Int) != 2) = false := by simp [he]
            have hl0 : (0 : Int) < (row.length : Int) := by omega
            have hl1 : (1 : Int) < (row.length : Int) := by omega
            obtain ⟨r, hr⟩ : ∃ z, z = inC n a0 a1 := ⟨_, rfl⟩
            rw [← hr] at hc HE
            rw [he] at hx
            clear hrow ha0 ha1 hr he h2' hl0 hl1
            cases r with
            | false =>
              have HO := Aside0.mk (HIN.out HE.out)
              have HEE := Aside0.mk (show togR l0 L = [] by rw [HD.out, HO.out, Bool.and_false]; rfl)
              go_wp2
              go_region_held3 (fun W1 => W1.cell? ar = some (.int .i64 a0) ∧ W1.cell? { ar with off := ar.off + (0 + 1), spot := none } = some (.int .i64 a1) ∧ Below w.heap.size w W1) (first | (refine ⟨by simp [*], by simp [*], ?_⟩; repeat (first | assumption | exact HB.out | apply below_drew | apply pw_below_drewN))) (first | (go_at_call 66; (with_reducible refine (hc _).mono ?_); rintro e w2 ⟨rfl, ⟨nd, rfl⟩⟩))
              all_goals
                go_wp2
                go_ret2
                exact ⟨_, by first | (rw [HO.out]; rfl) | (rw [HO.out, HSG.out]; rfl), by rw [HEE.out]; exact Kd.S_nil _ _ _ _ _, by repeat (first | assumption | exact HB.out | apply below_drew | apply pw_below_drewN)⟩
            | true =>
              go_wp2
              go_region_held3 (fun W1 => W1.cell? ar = some (.int .i64 a0) ∧ W1.cell? { ar with off := ar.off + (0 + 1), spot := none } = some (.int .i64 a1) ∧ Below w.heap.size w W1) (first | (refine ⟨by simp [*], by simp [*], ?_⟩; repeat (first | assumption | exact HB.out | apply below_drew | apply pw_below_drewN))) (first | (go_at_call 66; (with_reducible refine (hc _).mono ?_); rintro e w2 ⟨rfl, ⟨nd, rfl⟩⟩))
              all_goals
                go_wp2
                go_roundg (L.length - (i + 1))
                case measure => omega
                case rel => exact ⟨i + 1, by omega, by omega, by go_num, ⟨by rw [HNX.out, HAL.out, HE.out]; rfl⟩, ⟨by repeat (first | assumption | exact HB.out | apply below_drew | apply pw_below_drewN)⟩⟩
          · have h2' : ((row.length : Int) != 2) = true := by rw [bne_iff_ne]; omega
            have HO := Aside0.mk (HIN.out (by unfold cellB; rw [beq_eq_false_iff_ne.2 he]; rfl))
            have HEE := Aside0.mk (show togR l0 L = [] by rw [HD.out, HO.out, Bool.and_false]; rfl)
            clear hrow he
            go_wp2
            go_region
            all_goals
              go_wp2
              go_ret2
              exact ⟨_, by first | (rw [HO.out]; rfl) | (rw [HO.out, HSG.out]; rfl), by rw [HEE.out]; exact Kd.S_nil _ _ _ _ _, by repeat (first | assumption | exact HB.out | apply below_drew | apply pw_below_drewN)⟩
        · have hz : ¬ (i : Int) < (L.length : Int) := by omega
          have HALL := Aside0.mk (show (L.all fun r => cellB n r) = true by have := HAL.out; rwa [List.take_of_length_le (by omega)] at this)
          have HO := Aside0.mk (show cellsB n L = true by rw [HCB.out, HALL.out])
          have HEE := Aside0.mk (show togR l0 L = fromT (togs h0 (L.map toCell)) n by rw [HD.out, HO.out, HSG.out, HTG.out]; rfl)
          have HRW := Aside0.mk (fun r hr => cellB_row (List.all_eq_true.1 HALL.out r hr))
          clear hi
          go_wp2_with (go_at_call 56; refine (hhe2.out _ HB.out).mono ?_; rintro e w2 ⟨v, rfl, hS, hb⟩; obtain ⟨g, c, rfl, _⟩ := Kd.S_form hS HLN.out; rw [HHL.out] at hS ⊢; rw [HM.out] at hS; have HS := Aside0.mk (show KS w2 w.heap.size n g c h0 from Kd.S_lower hS HB.out.size); have HB1 := Aside0.mk (below_step HB.out hb); clear hS hb)
          go_loopg [8, 10, 45] L.length (fun gg s8 s10 s45 wr => ∃ i : Nat, i ≤ L.length ∧ L.length - i ≤ gg ∧ s8 = .slice (some ⟨g, 0, none⟩) (n + 1) c ∧ s45 = .int .i64 i ∧ Aside0 (KS wr w.heap.size n g c (togs h0 ((L.take i).map toCell))) ∧ Aside0 (Below w.heap.size w wr))
          case atStart => exact ⟨0, Nat.zero_le _, Nat.le_refl _, rfl, rfl, HS, HB1⟩
          case round =>
            clear HS HB HB1 hz hlt
            obtain ⟨i, hi, hg, rfl, rfl, HS, HB⟩ := hrel
            by_cases hlt : i < L.length
            · have hz : (i : Int) < (L.length : Int) := by omega
              obtain ⟨ad, Ar, cr, e0, hx, _, hrow⟩ := rowsAt HR1.out i hlt
              cases e0
              replace hx := pw_cell_below HB.out hx
              have HP := Aside0.mk (show HOK n (togs h0 ((L.take i).map toCell)) from HH.out.togs _ (fun c hc => by
                obtain ⟨r, hr, rfl⟩ := List.mem_map.1 hc
                exact cellRow_in (HRW.out r (List.mem_of_mem_take hr))))
              obtain ⟨q1, q2, q3, q4, q5⟩ := HRW.out L[i] (List.getElem_mem hlt)
              obtain ⟨a, ha⟩ : ∃ a : Nat, rd L[i] 0 = (a : Int) := ⟨(rd L[i] 0).toNat, by omega⟩
              obtain ⟨b, hb⟩ : ∃ b : Nat, rd L[i] 1 = (b : Int) := ⟨(rd L[i] 1).toNat, by omega⟩
              have qa : 1 ≤ a ∧ a < n ∧ 1 ≤ b ∧ b < n := by omega
              have HNX := Aside0.mk (show togs h0 ((L.take (i + 1)).map toCell) = togF (togs h0 ((L.take i).map toCell)) a b by
                rw [List.take_succ_eq_append_getElem hlt, List.map_append, List.map_cons, List.map_nil, togs_snoc]
                unfold toCell
                rw [ha, hb]; rfl)
              rw [getD_at L [] i hlt] at hx hrow
              obtain ⟨row, hrw⟩ : ∃ r, r = L[i] := ⟨_, rfl⟩
              rw [← hrw] at hx hrow ha hb q1
              obtain ⟨ar, e0, hy0⟩ := Kd.at_int hrow (0 : Nat) (by omega) (by omega)
              cases e0
              obtain ⟨ar', e0, hy1⟩ := Kd.at_int hrow ((0 + 1 : Nat) : Int) (by omega) (by omega)
              cases e0
              simp only [Int.toNat_natCast] at hy0 hy1
              replace hy0 : w.cell? ar = some (.int .i64 a) := by rw [addr_zero] at hy0; rw [← ha]; exact hy0
              replace hy1 : w.cell? { ar with off := ar.off + (0 + 1), spot := none } = some (.int .i64 b) := by rw [Addr.add_succ'] at hy1; rw [← hb]; exact hy1
              replace hy0 := pw_cell_below HB.out hy0
              replace hy1 := pw_cell_below HB.out hy1
              have hl0 : (0 : Int) < (row.length : Int) := by omega
              have hl1 : (1 : Int) < (row.length : Int) := by omega
              obtain ⟨hp, hhp⟩ : ∃ h, h = togs h0 ((L.take i).map toCell) := ⟨_, rfl⟩
              rw [← hhp] at HP HNX HS
              have HTT := Aside0.mk (fun (W : World) (hbw : Below wr.heap.size wr W) => spec_gyToggle.callsG HP.out h2 a b qa.1 qa.2.1 qa.2.2.1 qa.2.2.2 g c w W (below_then HB.out HB.out.size hbw) (HS.out.below_ hbw))
              clear hrow hrw ha hb hhp q1 q2 q3 q4 q5
              go_wp2
              go_region_with (go_at_call 67; refine (HTT.out _ (by repeat (first | exact Below.refl _ _ | apply below_drew))).mono ?_; rintro e w3 ⟨rfl, hs3, hb3⟩; have HS3 := Aside0.mk hs3; have HB3 := Aside0.mk hb3; clear hs3 hb3)
              all_goals
                go_wp2
                go_roundg (L.length - (i + 1))
                case measure => omega
                case rel => exact ⟨i + 1, by omega, by omega, rfl, by go_num, ⟨by rw [HNX.out]; exact HS3.out⟩, HB3⟩
            · have hz : ¬ (i : Int) < (L.length : Int) := by omega
              have hFT := HS.out
              rw [List.take_of_length_le (by omega)] at hFT
              have HOKF : HOK n (togs h0 (L.map toCell)) := HH.out.togs _ (fun c hc => by
                obtain ⟨r, hr, rfl⟩ := List.mem_map.1 hc
                exact cellRow_in (HRW.out r hr))
              obtain ⟨k2, hk2⟩ := (heFrom_ev HOKF h2).rounds
              have hq := Kd.S_reads' hFT
              have HQ := Aside0.mk (spec_heFrom.calls k2 (some ⟨g, 0, none⟩) c (tableL (togs h0 (L.map toCell)) (n + 1) (n + 1)) _ wr hq.2.2 (by rw [← hq.1]; exact hq.2.1) hk2)
              rw [tableL_length] at HQ
              clear hFT HOKF hk2 hq
              go_wp2_with (go_at_call 68; refine HQ.out.mono ?_; rintro e w3 ⟨v, rfl, hS, hb⟩; have HS3 := Aside0.mk (Kd.S_lower hS HB.out.size); have HB3 := Aside0.mk (below_step HB.out hb); clear hS hb)
              go_ret2
              exact ⟨_, by first | (rw [HO.out]; rfl) | (rw [HO.out, HSG.out]; rfl), by rw [HEE.out]; exact HS3.out, HB3.out⟩
    · have hz200 : (L.length : Int) > 200 := by omega
      have HO := Aside0.mk (show cellsB l0.length L = false by unfold cellsB; rw [decide_eq_false h200, Bool.false_and])
      have HE := Aside0.mk (show togR l0 L = [] by rw [HD.out, HO.out, Bool.and_false]; rfl)
      clear HD hs hr0 hc0 hr1 hc1
      go_enter Try.func23, Try.ntmps23
      go_wp2_with (go_at_call 54; refine hsg.mono ?_; rintro e w1 ⟨rfl, hb⟩)
      go_ret2
      exact ⟨_, by rw [HO.out]; rfl, by rw [HE.out]; exact Kd.S_nil _ _ _ _ _, hb⟩
end Go.Proofs.Ytflhhbpgkjpbdaa
