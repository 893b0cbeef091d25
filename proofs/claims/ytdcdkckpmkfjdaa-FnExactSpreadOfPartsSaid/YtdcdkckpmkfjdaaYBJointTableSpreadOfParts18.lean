/- Texts of one chain, in build order. -/
import Derived.Test.YtdcdkckpmkfjdaaYBJointTableSpreadOfParts17
import Derived.Test.YtdcdkckpmkfjdaaWMore
namespace Go.Proofs.Ytdcdkckpmkfjdaa
open Go.RowKit Go.Proofs.Ytdcdkckpmkfjdaa.P Go.Proofs.Ytdcdkckpmkfjdaa.L Go.Proofs.YtdcdkckpmkfjdaaW.PrintWords Go.Proofs.YtdcdkckpmkfjdaaW.PrintLast Go.Proofs.YtdcdkckpmkfjdaaW.PrintMore
set_option linter.unusedVariables false
set_option linter.unusedSimpArgs false

/-- The state of total: the variable bo holds the sum. -/
def ToSt (W0 : World) (B bo : Nat) (cs : Nat → Int) (j : Nat) (W : World) (ok : Nat → Prop) : Prop :=
 (ok = fun k => k < W0.heap.size) ∧ W0.heap.size ≤ W.heap.size ∧ (∀ k, k < B → W.heap[k]? = W0.heap[k]?) ∧ W.heap[bo]? = some (.cells #[.int .i64 (cs j)] 3 (0, 0))
theorem ToSt.stays (W0 : World) (B bo : Nat) (cs : Nat → Int) (hB : B ≤ bo) (hbo : bo < W0.heap.size) : Stays (ToSt W0 B bo cs) := by
 refine ⟨?_, ?_⟩
 ·rintro j W ok ⟨rfl, hs, _, _⟩ k hk
  exact Nat.lt_of_lt_of_le hk hs
 ·rintro j W W' ok ⟨rfl, hs, hB2, hc⟩ hm
  exact ⟨rfl, heap_grew hs (fun k hk => hm k hk), fun k hk => (hm k (show k < W0.heap.size by omega)).trans (hB2 k hk), (hm bo hbo).trans hc⟩
theorem cell_farV {W : World} {p q : Addr} {u v : Value} (hn : q.block ≠ p.block) (h : W.cell? q = some v) : (W.setCell p u).cell? q = some v := by
 unfold World.cell? at h ⊢; rw [Below.heap_setCell W p u _ hn]; exact h
set_option maxHeartbeats 4000000 in
set_option maxRecDepth 100000 in
theorem total_1.calls (W0 : World) (B bf bo gof : Nat) (lbof : Array Value) (cs : Nat → Int) (All : List (List (List Int))) (ofv : List (List Int) → Int) (hbf : bf < B) (hB : B ≤ bo) (hbo : bo < W0.heap.size)
  (hfn : W0.heap[bf]? = some (.cells #[.func (.func gof) #[] lbof] 56 (0, 0)))
  (eg : ∀ args w, (callFunc gof args).run Try.prog w = .ok (.enter gof args) w)
  (hof : ∀ (T : List (List Int)) (A : Option Addr) (c : Nat) (W : World), T ∈ All → (∀ k, k < B → W.heap[k]? = W0.heap[k]?) → Kd.C (Kd.slice 3 (Kd.int .i64)) W A T.length T → T.length ≤ c → Calls Try.prog gof (#[.slice A T.length c] ++ lbof) W fun e w' => e = .returned (.int .i64 (ofv T)) ∧ Below W.heap.size W w')
  (hcs : ∀ (j : Nat) (T : List (List Int)), All[j]? = some T → cs (j + 1) = wrap64 (cs j + ofv T))
  (j : Nat) (T : List (List Int)) (A : Option Addr) (c : Nat) (W : World) (ok : Nat → Prop) (hT : All[j]? = some T) (hst : ToSt W0 B bo cs j W ok) (hF : Kd.F (Kd.slice 3 (Kd.int .i64)) W (fun k => ¬ ok k ∧ k < W.heap.size) A T.length T) (hc : T.length ≤ c) :
  Calls Try.prog 116 (#[.slice A T.length c] ++ #[.pointer (some ⟨bo, 0, none⟩), .pointer (some ⟨bf, 0, none⟩)]) W (Stepped (ToSt W0 B bo cs) (j + 1) W ok) := by
 obtain ⟨rfl, hsz, hlow, hcell⟩ := hst
 have hm1 := hcs j T hT
 obtain ⟨m, hm⟩ : ∃ m, m = ofv T := ⟨_, rfl⟩
 have hlow2 : ∀ W', Below W.heap.size W W' → ∀ k, k < B → W'.heap[k]? = W0.heap[k]? := fun W' hb k hk => (hb.block k (by omega)).trans (hlow k hk)
 have HCF := Aside0.mk (fun W' (hb : Below W.heap.size W W') => hm ▸ hof T A c W' (List.mem_of_getElem? hT) (hlow2 W' hb) (Kd.F_now (Kd.F_below hF hb)) hc)
 rw [← hm] at hm1
 have hfw : W.heap[bf]? = some (.cells #[.func (.func gof) #[] lbof] 56 (0, 0)) := (hlow bf hbf).trans hfn
 have hk1 : W.cell? ⟨bf, 0, none⟩ = some (.func (.func gof) #[] lbof) := blk_cell hfw 0
 have hk2 : W.cell? ⟨bo, 0, none⟩ = some (.int .i64 (cs j)) := blk_cell hcell 0
 have hk3 : W.frozen? ⟨bo, 0, none⟩ = false := blk_frozen hcell 0
 have HM := Aside0.mk hm1
 have HCELL := Aside0.mk hcell
 have HSZ := Aside0.mk hsz
 have HLOW := Aside0.mk hlow2
 have HBC := Aside0.mk (Below.refl W.heap.size W)
 clear hof hcs hm1 hcell hsz hlow hlow2 hF hc hfn hT hfw hm
 go_enter Try.func116, Try.ntmps116
 go_wp2
 go_region_law (first
   | (go_simp; go_at_fn gof; (refine (HCF.out _ ?hbY).mono ?_); (case hbY => exact (by repeat (first | exact HBC.out | refine below_drew ?_))); rintro e w1 ⟨rfl, hb⟩; have n_ := fun h => Aside0.mk (Below.trans (B := W.heap.size) h (hb.mono (Below.size h))); have m_ := n_ (by repeat (first | exact HBC.out | refine below_drew ?_)); clear n_ HBC; have HBC := m_; clear m_; have hq1 := pw_cell_below HBC.out hk1; have hq2 := pw_cell_below HBC.out hk2; have hq3 : w1.frozen? ⟨bo, 0, none⟩ = false := blk_frozen (blk_below HCELL.out HBC.out) 0; clear hb))
 all_goals
  have HT := Aside0.mk ((Touch.of_below HBC.out (fun k => k < W0.heap.size)).set ⟨bo, 0, none⟩ (.inl hbo) (.int .i64 (IntKind.i64.wrap (cs j + m))))
  go_wp2
  go_ret
  refine ⟨rfl, fun k => k < W0.heap.size, ⟨rfl, Nat.le_trans HSZ.out HT.out.size, fun k hk => (Below.heap_setCell _ _ _ _ (by dsimp only; omega)).trans (HLOW.out _ HBC.out k hk), ?_⟩, HT.out, fun k h => .inl h⟩
  rw [HM.out, ← i64_w]
  exact blk_put (blk_below HCELL.out HBC.out) 0 _ rfl
end Go.Proofs.Ytdcdkckpmkfjdaa

namespace Go.Proofs.Ytdcdkckpmkfjdaa
open Go.RowKit Go.Proofs.Ytdcdkckpmkfjdaa.P Go.Proofs.Ytdcdkckpmkfjdaa.L Go.Proofs.YtdcdkckpmkfjdaaW.PrintWords Go.Proofs.YtdcdkckpmkfjdaaW.PrintLast Go.Proofs.YtdcdkckpmkfjdaaW.PrintMore
set_option linter.unusedVariables false
set_option maxRecDepth 100000

def srX (n : Nat) : List (List Int) := (srE 100 n [] 0).getD []
def esX (n : Nat) : List (List (List Int)) := (esE 1000 n (srX n) [] (List.replicate n 0)).getD []
def EsOk (n : Nat) : Prop := srE 100 n [] 0 = some (srX n) ∧ (srX n).length ≤ 1000 ∧ esE 1000 n (srX n) [] (List.replicate n 0) = some (esX n)
theorem es_1 : EsOk 1 := by unfold EsOk; decide +kernel
theorem es_2 : EsOk 2 := by unfold EsOk; decide +kernel
theorem es_3 : EsOk 3 := by unfold EsOk; decide +kernel
theorem es_4 : EsOk 4 := by unfold EsOk; decide +kernel
theorem es_all {n : Nat} (h0 : 1 ≤ n) (h1 : n ≤ 4) : EsOk n := by
 have e : n = 1 ∨ n = 2 ∨ n = 3 ∨ n = 4 := by omega
 rcases e with rfl | rfl | rfl | rfl
 ·exact es_1
 ·exact es_2
 ·exact es_3
 ·exact es_4
theorem eachSigns_of {n : Nat} (hn : n ≤ 100) (h : EsOk n) : EachSigns n (esX n) := fun g lb w St hSt eg hf ok hst =>
 impl_eachSigns.callsG n hn (srX n) g lb w (fun w => impl_signRows.callsG n 100 (srX n) w h.1 (by omega) (by have := h.2.1; omega)) St hSt h.2.1 (esX n) eg hf 1000 h.2.2 (by omega) ok hst
theorem eachSigns_all {n : Nat} (h0 : 1 ≤ n) (h1 : n ≤ 4) : EachSigns n (esX n) := eachSigns_of (by omega) (es_all h0 h1)
/-- The counts behind j tables. -/
def csOf (ofv : List (List Int) → Int) : List (List (List Int)) → List Int → Nat → List Int
 | _, c, 0 => c
 | [], c, _ + 1 => c
 | T :: L, c, j + 1 => csOf ofv L ((spec_weAdd.l0 1000 (ofv T) c).getD []) j
def csOk (ofv : List (List Int) → Int) : List (List (List Int)) → List Int → Bool
 | [], _ => true
 | T :: L, c => match spec_weAdd.l0 1000 (ofv T) c with
  | some c' => decide (0 ≤ ofv T) && csOk ofv L c'
  | none => false
theorem csOk_step (ofv : List (List Int) → Int) : ∀ (L : List (List (List Int))) (c : List Int), csOk ofv L c = true → ∀ (j : Nat) (T : List (List Int)), L[j]? = some T → 0 ≤ ofv T ∧ spec_weAdd.l0 1000 (ofv T) (csOf ofv L c j) = some (csOf ofv L c (j + 1))
 | [], c, h, j, T, hT => by simp at hT
 | T0 :: L, c, h, j, T, hT => by
  rw [csOk] at h
  cases hc : spec_weAdd.l0 1000 (ofv T0) c with
  | none => rw [hc] at h; cases h
  | some c' =>
   rw [hc] at h
   simp only [Bool.and_eq_true, decide_eq_true_eq] at h
   cases j with
   | zero =>
    simp only [List.getElem?_cons_zero, Option.some.injEq] at hT
    subst hT
    refine ⟨h.1, ?_⟩
    cases L <;> simp [csOf, hc]
   | succ j =>
    have := csOk_step ofv L c' h.2 j T (by simpa using hT)
    simp only [csOf, hc, Option.getD_some]
    exact this
end Go.Proofs.Ytdcdkckpmkfjdaa

namespace Go.Proofs.Ytdcdkckpmkfjdaa.P
open Go.RowKit Go.Proofs.YtdcdkckpmkfjdaaW.PrintWords Go.Proofs.YtdcdkckpmkfjdaaW.PrintLast Go.Proofs.YtdcdkckpmkfjdaaW.PrintMore
attribute [local go_sem] max2_int min2_int max_two min_two max_three min_three max_four min_four   -- for this text's walks alone
set_option linter.unusedVariables false
set_option linter.unusedSimpArgs false

def impl_bit.f (a0 : Bool) : Option (Int) := if a0 = true then (some 1) else (some 0)
set_option maxHeartbeats 8000000 in
set_option maxRecDepth 100000 in
theorem impl_bit.calls (a0 : Bool) (r : Int) (w : World) (h : impl_bit.f a0 = some r) :
  Calls Try.prog 143 #[.bool a0] w fun e w' => e = .returned (.int .i64 r) ∧ Drawn0 w w' := by
 have H : (if a0 = true then (some 1) else (some 0)) = some r := h
 clear h
 by_cases c2 : a0 = true
 ·subst c2
  have H1 : (some 1) = some r := by rw [if_pos rfl] at H; exact H
  clear H
  have H := H1
  clear H1
  obtain rfl := Option.some.inj H
  go_enter Try.func143, Try.ntmps143
  go_wp2
  go_ret
  exact ⟨by first | rfl | (simp; done) | (simp [*]; done), by repeat (first | exact Drawn0.refl _ | apply Drawn0.step)⟩
 ·replace c2 := Bool.eq_false_iff.mpr c2
  subst c2
  have H1 : (some 0) = some r := by rw [if_neg (show ¬ (false = true) by decide)] at H; exact H
  clear H
  have H := H1
  clear H1
  obtain rfl := Option.some.inj H
  go_enter Try.func143, Try.ntmps143
  go_wp2
  go_ret
  exact ⟨by first | rfl | (simp; done) | (simp [*]; done), by repeat (first | exact Drawn0.refl _ | apply Drawn0.step)⟩

end Go.Proofs.Ytdcdkckpmkfjdaa.P

namespace Go.Proofs.Ytdcdkckpmkfjdaa.P
open Go.RowKit Go.Proofs.YtdcdkckpmkfjdaaW.PrintWords Go.Proofs.YtdcdkckpmkfjdaaW.PrintLast Go.Proofs.YtdcdkckpmkfjdaaW.PrintMore
attribute [local go_sem] max2_int min2_int max_two min_two max_three min_three max_four min_four   -- for this text's walks alone
set_option linter.unusedVariables false
set_option linter.unusedSimpArgs false

mutual
def impl_countOf.l0 : Nat → Int → Int → List (List Int) → Int → Int → Option (Int)
 | 0, _, _, _, _, _ => none
 | k + 1, x1, x5, x10, x11, x12 => if x12 < x11 then (if 0 ≤ x12 then (if x12 < (x10.length : Int) then (impl_countOf.l1 k x1 x5 x10 x11 x12 (rd_L1 x10 x12) ((rd_L1 x10 x12).length : Int) 0) else (none)) else (none)) else (some x5)
def impl_countOf.l1 : Nat → Int → Int → List (List Int) → Int → Int → List Int → Int → Int → Option (Int)
 | 0, _, _, _, _, _, _, _, _ => none
 | k + 1, x1, x5, x10, x11, x12, x16, x17, x18 => if x18 < x17 then (if 0 ≤ x18 then (if x18 < (x16.length : Int) then ((impl_bit.f ((rd x16 x18) == x1)).bind fun t170 => (impl_countOf.l1 k x1 (wrap64 (x5 + t170)) x10 x11 x12 x16 x17 (wrap64 (x18 + 1)))) else (none)) else (none)) else (impl_countOf.l0 k x1 x5 x10 x11 (wrap64 (x12 + 1)))
end
def impl_countOf.f (k : Nat) (l0 : List (List Int)) (a1 : Int) : Option (Int) := impl_countOf.l0 k a1 0 l0 (l0.length : Int) 0
set_option maxHeartbeats 8000000 in
set_option maxRecDepth 100000 in
theorem impl_countOf.calls (k : Nat) (A0 : Option Addr) (c0 : Nat) (l0 : List (List Int)) (a1 : Int) (r : Int) (w : World) (hr0 : Kd.C (Kd.slice 3 (Kd.int .i64)) w A0 l0.length l0) (hc0 : l0.length ≤ c0) (h : impl_countOf.f k l0 a1 = some r) :
  Calls Try.prog 112 #[.slice A0 l0.length c0, .int .i64 a1] w fun e w' => e = .returned (.int .i64 r) ∧ Drawn0 w w' := by
 have HR0 := Aside0.mk hr0
 have HC0 := Aside0.mk hc0
 clear hr0 hc0
 have H : (impl_countOf.l0 k a1 0 l0 (l0.length : Int) 0) = some r := h
 clear h
 have H' := Aside0.mk H
 clear H
 go_enter Try.func112, Try.ntmps112
 go_wp2
 go_loopg [5, 12] k (fun kq v5 v12 w' => ∃ (x5_1 : Int) (x12_1 : Int), v5 = .int .i64 x5_1 ∧ v12 = .int .i64 x12_1 ∧ Aside0 (impl_countOf.l0 kq a1 x5_1 l0 (l0.length : Int) x12_1 = some r) ∧ Aside0 (kq ≤ k) ∧ Drawn0 w w')
 case atStart => exact ⟨(0), (0), (by first | rfl | (simp; done) | (simp [*]; done)), (by first | rfl | (simp; done) | (simp [*]; done)), H', ⟨Nat.le_refl _⟩, by repeat (first | exact Drawn0.refl _ | apply Drawn0.step)⟩
 case round =>
  clear H'
  try clear c1
  try clear p2
  obtain ⟨x5_1, x12_1, rfl, rfl, HA, HK1, ⟨m1, rfl⟩⟩ := hrel
  cases gk with
  | zero => exact absurd HA.out (by simp [impl_countOf.l0])
  | succ k1 =>
   have H := HA.out
   clear HA
   simp only [impl_countOf.l0] at H
   by_cases c3 : x12_1 < (l0.length : Int)
   ·rw [if_pos c3] at H
    have c3b0 : decide (x12_1 < (l0.length : Int)) = true := decide_eq_true c3
    clear c3
    by_cases c4 : 0 ≤ x12_1
    ·rw [if_pos c4] at H
     have c4b0 : decide (0 ≤ x12_1) = true := decide_eq_true c4
     clear c4
     by_cases c5 : x12_1 < (l0.length : Int)
     ·rw [if_pos c5] at H
      have c5b0 : decide (x12_1 < (l0.length : Int)) = true := decide_eq_true c5
      clear c5
      have H' := Aside0.mk H
      clear H
      have p168 : 0 ≤ (x12_1 : Int) := of_decide_eq_true (by first | (with_reducible assumption) | assumption)
      have q168 : x12_1 < (l0.length : Int) := of_decide_eq_true (by first | (with_reducible assumption) | assumption)
      obtain ⟨ad168, A168_0, c168_0, e168, hx168_0, hl168_0, hi168_0⟩ := at_L1 HR0.out x12_1 p168 q168
      cases e168
      have HR168_0 := Aside0.mk hi168_0
      have HC168_0 := Aside0.mk hl168_0
      clear hi168_0 hl168_0
      replace p168 := eq_true p168
      replace q168 := eq_true q168
      go_wp2
      go_loopg [5, 18] k1 (fun kq v5 v18 w' => ∃ (x5_2 : Int) (x18_2 : Int), v5 = .int .i64 x5_2 ∧ v18 = .int .i64 x18_2 ∧ Aside0 (impl_countOf.l1 kq a1 x5_2 l0 (l0.length : Int) x12_1 (rd_L1 l0 x12_1) ((rd_L1 l0 x12_1).length : Int) x18_2 = some r) ∧ Aside0 (kq ≤ k1) ∧ Drawn0 w w')
      case atStart => exact ⟨(x5_1), (0), (by first | rfl | (simp; done) | (simp [*]; done)), (by first | rfl | (simp; done) | (simp [*]; done)), H', ⟨Nat.le_refl _⟩, by repeat (first | exact Drawn0.refl _ | apply Drawn0.step)⟩
      case round =>
       clear H'
       try clear c1
       try clear p1
       try clear q1
       try clear hx1
       try clear p2
       try clear c3
       try clear c3b0
       try clear c4
       try clear c4b0
       try clear c5
       try clear c5b0
       try clear hx168_0
       try clear p168
       try clear p2
       try clear q168
       obtain ⟨x5_2, x18_2, rfl, rfl, HA, HK2, ⟨m2, rfl⟩⟩ := hrel
       cases gk with
       | zero => exact absurd HA.out (by simp [impl_countOf.l1])
       | succ k2 =>
        have H := HA.out
        clear HA
        simp only [impl_countOf.l1] at H
        by_cases c6 : x18_2 < ((rd_L1 l0 x12_1).length : Int)
        ·rw [if_pos c6] at H
         have c6b0 : decide (x18_2 < ((rd_L1 l0 x12_1).length : Int)) = true := decide_eq_true c6
         clear c6
         by_cases c7 : 0 ≤ x18_2
         ·rw [if_pos c7] at H
          have c7b0 : decide (0 ≤ x18_2) = true := decide_eq_true c7
          clear c7
          by_cases c8 : x18_2 < ((rd_L1 l0 x12_1).length : Int)
          ·rw [if_pos c8] at H
           have c8b0 : decide (x18_2 < ((rd_L1 l0 x12_1).length : Int)) = true := decide_eq_true c8
           clear c8
           replace H := Option.bind_eq_some_iff.mp H
           obtain ⟨t170, A90, H⟩ := H
           replace H : (impl_countOf.l1 k2 a1 (wrap64 (x5_2 + t170)) l0 (l0.length : Int) x12_1 (rd_L1 l0 x12_1) ((rd_L1 l0 x12_1).length : Int) (wrap64 (x18_2 + 1))) = some r := H
           have A9 := Aside0.mk A90
           clear A90
           have H' := Aside0.mk H
           clear H
           have p169 : 0 ≤ (x18_2 : Int) := of_decide_eq_true (by first | (with_reducible assumption) | assumption)
           have q169 : x18_2 < ((rd_L1 l0 x12_1).length : Int) := of_decide_eq_true (by first | (with_reducible assumption) | assumption)
           obtain ⟨ad169, e169, hx169_0⟩ := Kd.at_int HR168_0.out x18_2 p169 q169
           cases e169
           replace p169 := eq_true p169
           replace q169 := eq_true q169
           go_wp2_with (first | ((with_reducible refine gate_callee (f := 143) rfl ?_); refine goesL_ (some 26) rfl rfl Try.func143 (by kernel_rfl) rfl #[.bool ((rd (rd_L1 l0 x12_1) x18_2) == a1)] rfl (by (try simp only [List.map_toArray, List.map_cons, List.map_nil]); first | done | rfl | (simp only [List.length_drop, List.length_take]; rfl)) ?_; (with_reducible refine (impl_bit.calls ((rd (rd_L1 l0 x12_1) x18_2) == a1) t170 _ A9.out).mono ?_); rintro e w' ⟨rfl, ⟨nd, rfl⟩⟩; refine ⟨_, rfl, ?_⟩))
           go_roundg k2
           case measure => have := HK1.out; have := HK2.out; omega
           case rel => exact ⟨(wrap64 (x5_2 + t170)), (wrap64 (x18_2 + 1)), (by first | rfl | (simp; done) | (simp [*]; done)), (by first | rfl | (simp; done) | (simp [*]; done)), H', ⟨by have := HK1.out; have := HK2.out; omega⟩, by repeat (first | exact Drawn0.refl _ | apply Drawn0.step)⟩
          ·rw [if_neg c8] at H
           exact absurd H (by simp)
         ·rw [if_neg c7] at H
          exact absurd H (by simp)
        ·rw [if_neg c6] at H
         have c6b0 : decide (x18_2 < ((rd_L1 l0 x12_1).length : Int)) = false := decide_eq_false c6
         clear c6
         have H' := Aside0.mk H
         clear H
         go_wp2
         go_roundg k2
         case measure => have := HK1.out; have := HK2.out; omega
         case rel => exact ⟨(x5_2), (wrap64 (x12_1 + 1)), (by first | rfl | (simp; done) | (simp [*]; done)), (by first | rfl | (simp; done) | (simp [*]; done)), H', ⟨by have := HK1.out; have := HK2.out; omega⟩, by repeat (first | exact Drawn0.refl _ | apply Drawn0.step)⟩
     ·rw [if_neg c5] at H
      exact absurd H (by simp)
    ·rw [if_neg c4] at H
     exact absurd H (by simp)
   ·rw [if_neg c3] at H
    have c3b0 : decide (x12_1 < (l0.length : Int)) = false := decide_eq_false c3
    clear c3
    obtain rfl := Option.some.inj H
    go_wp2
    go_ret
    exact ⟨by first | rfl | (simp; done) | (simp [*]; done), by repeat (first | exact Drawn0.refl _ | apply Drawn0.step)⟩

end Go.Proofs.Ytdcdkckpmkfjdaa.P

namespace Go.Proofs.Ytdcdkckpmkfjdaa.P
open Go.RowKit Go.Proofs.YtdcdkckpmkfjdaaW.PrintWords Go.Proofs.YtdcdkckpmkfjdaaW.PrintLast Go.Proofs.YtdcdkckpmkfjdaaW.PrintMore
attribute [local go_sem] max2_int min2_int max_two min_two max_three min_three max_four min_four   -- for this text's walks alone
set_option linter.unusedVariables false
set_option linter.unusedSimpArgs false

def impl_minusOnes.f (k : Nat) (l0 : List (List Int)) : Option (Int) := (impl_countOf.f k l0 (-1)).bind fun t171 => (some t171)
set_option maxHeartbeats 8000000 in
set_option maxRecDepth 100000 in
theorem impl_minusOnes.calls (k : Nat) (A0 : Option Addr) (c0 : Nat) (l0 : List (List Int)) (r : Int) (w : World) (hr0 : Kd.C (Kd.slice 3 (Kd.int .i64)) w A0 l0.length l0) (hc0 : l0.length ≤ c0) (h : impl_minusOnes.f k l0 = some r) :
  Calls Try.prog 63 #[.slice A0 l0.length c0] w fun e w' => e = .returned (.int .i64 r) ∧ Drawn0 w w' := by
 have HR0 := Aside0.mk hr0
 have HC0 := Aside0.mk hc0
 clear hr0 hc0
 have H : ((impl_countOf.f k l0 (-1)).bind fun t171 => (some t171)) = some r := h
 clear h
 replace H := Option.bind_eq_some_iff.mp H
 obtain ⟨t171, A20, H⟩ := H
 replace H : (some t171) = some r := H
 have A2 := Aside0.mk A20
 clear A20
 obtain rfl := Option.some.inj H
 go_enter Try.func63, Try.ntmps63
 go_wp2_with (first | ((with_reducible refine gate_callee (f := 112) rfl ?_); refine goesL_ (some 4) rfl rfl Try.func112 (by kernel_rfl) rfl #[.slice A0 l0.length c0, .int .i64 (-1)] rfl (by (try simp only [List.map_toArray, List.map_cons, List.map_nil]); first | done | rfl | (simp only [List.length_drop, List.length_take]; rfl)) ?_; (with_reducible refine (impl_countOf.calls k _ _ l0 (-1) t171 _ ?side1 ?side2 A2.out).mono ?_); (case side1 => repeat (first | exact HR0.out | (with_reducible refine Kd.C_alloc ?_ _) | (with_reducible refine Kd.C_drewN ?_ _) | (with_reducible refine Kd.C_drew ?_))); (case side2 => exact HC0.out); rintro e w' ⟨rfl, ⟨nd, rfl⟩⟩; refine ⟨_, rfl, ?_⟩))
 go_ret
 exact ⟨by first | rfl | (simp; done) | (simp [*]; done), by repeat (first | exact Drawn0.refl _ | apply Drawn0.step)⟩

end Go.Proofs.Ytdcdkckpmkfjdaa.P

namespace Go.Proofs.Ytdcdkckpmkfjdaa.P
open Go.RowKit Go.Proofs.YtdcdkckpmkfjdaaW.PrintWords Go.Proofs.YtdcdkckpmkfjdaaW.PrintLast Go.Proofs.YtdcdkckpmkfjdaaW.PrintMore
attribute [local go_sem] max2_int min2_int max_two min_two max_three min_three max_four min_four   -- for this text's walks alone
set_option linter.unusedVariables false
set_option linter.unusedSimpArgs false

def impl_sum.l0 : Nat → Int → List Int → Int → Int → Option (Int)
 | 0, _, _, _, _ => none
 | k + 1, x3, x6, x7, x8 => if x8 < x7 then (if 0 ≤ x8 then (if x8 < (x6.length : Int) then (impl_sum.l0 k (wrap64 (x3 + (rd x6 x8))) x6 x7 (wrap64 (x8 + 1))) else (none)) else (none)) else (some x3)
def impl_sum.f (k : Nat) (l0 : List Int) : Option (Int) := impl_sum.l0 k 0 l0 (l0.length : Int) 0
set_option maxHeartbeats 8000000 in
set_option maxRecDepth 100000 in
theorem impl_sum.calls (k : Nat) (A0 : Option Addr) (c0 : Nat) (l0 : List Int) (r : Int) (w : World) (hr0 : Kd.C (Kd.int .i64) w A0 l0.length l0) (hc0 : l0.length ≤ c0) (h : impl_sum.f k l0 = some r) :
  Calls Try.prog 113 #[.slice A0 l0.length c0] w fun e w' => e = .returned (.int .i64 r) ∧ Drawn0 w w' := by
 have HR0 := Aside0.mk hr0
 have HC0 := Aside0.mk hc0
 clear hr0 hc0
 have H : (impl_sum.l0 k 0 l0 (l0.length : Int) 0) = some r := h
 clear h
 have H' := Aside0.mk H
 clear H
 go_enter Try.func113, Try.ntmps113
 go_wp2
 go_loopg [3, 8] k (fun kq v3 v8 w' => ∃ (x3_1 : Int) (x8_1 : Int), v3 = .int .i64 x3_1 ∧ v8 = .int .i64 x8_1 ∧ Aside0 (impl_sum.l0 kq x3_1 l0 (l0.length : Int) x8_1 = some r) ∧ Aside0 (kq ≤ k) ∧ Drawn0 w w')
 case atStart => exact ⟨(0), (0), (by first | rfl | (simp; done) | (simp [*]; done)), (by first | rfl | (simp; done) | (simp [*]; done)), H', ⟨Nat.le_refl _⟩, by repeat (first | exact Drawn0.refl _ | apply Drawn0.step)⟩
 case round =>
  clear H'
  try clear c1
  obtain ⟨x3_1, x8_1, rfl, rfl, HA, HK1, ⟨m1, rfl⟩⟩ := hrel
  cases gk with
  | zero => exact absurd HA.out (by simp [impl_sum.l0])
  | succ k1 =>
   have H := HA.out
   clear HA
   simp only [impl_sum.l0] at H
   by_cases c2 : x8_1 < (l0.length : Int)
   ·rw [if_pos c2] at H
    have c2b0 : decide (x8_1 < (l0.length : Int)) = true := decide_eq_true c2
    clear c2
    by_cases c3 : 0 ≤ x8_1
    ·rw [if_pos c3] at H
     have c3b0 : decide (0 ≤ x8_1) = true := decide_eq_true c3
     clear c3
     by_cases c4 : x8_1 < (l0.length : Int)
     ·rw [if_pos c4] at H
      have c4b0 : decide (x8_1 < (l0.length : Int)) = true := decide_eq_true c4
      clear c4
      have H' := Aside0.mk H
      clear H
      have p222 : 0 ≤ (x8_1 : Int) := of_decide_eq_true (by first | (with_reducible assumption) | assumption)
      have q222 : x8_1 < (l0.length : Int) := of_decide_eq_true (by first | (with_reducible assumption) | assumption)
      obtain ⟨ad222, e222, hx222_0⟩ := Kd.at_int HR0.out x8_1 p222 q222
      cases e222
      replace p222 := eq_true p222
      replace q222 := eq_true q222
      go_wp2
      go_roundg k1
      case measure => have := HK1.out; omega
      case rel => exact ⟨(wrap64 (x3_1 + (rd l0 x8_1))), (wrap64 (x8_1 + 1)), (by first | rfl | (simp; done) | (simp [*]; done)), (by first | rfl | (simp; done) | (simp [*]; done)), H', ⟨by have := HK1.out; omega⟩, by repeat (first | exact Drawn0.refl _ | apply Drawn0.step)⟩
     ·rw [if_neg c4] at H
      exact absurd H (by simp)
    ·rw [if_neg c3] at H
     exact absurd H (by simp)
   ·rw [if_neg c2] at H
    have c2b0 : decide (x8_1 < (l0.length : Int)) = false := decide_eq_false c2
    clear c2
    obtain rfl := Option.some.inj H
    go_wp2
    go_ret
    exact ⟨by first | rfl | (simp; done) | (simp [*]; done), by repeat (first | exact Drawn0.refl _ | apply Drawn0.step)⟩

end Go.Proofs.Ytdcdkckpmkfjdaa.P
