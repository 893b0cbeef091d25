/- The program's DescendingWith answers as the reference's DescendingWith, for all numbers; what comes back is the call's own (the walk of the law FnExactDescendingWith; no condition). -/
import Derived.Test.YtdcdkckpmkfjdaaQDescendingWith
import Derived.Test.YtdcdkckpmkfjdaaUA
import Derived.Test.YtdcdkckpmkfjdaaPx49
namespace Go.Proofs.Ytdcdkckpmkfjdaa.Law
open Go.RowKit Go.Proofs.Ytdcdkckpmkfjdaa Go.Proofs.Ytdcdkckpmkfjdaa.P Go.Proofs.Ytdcdkckpmkfjdaa.L Go.Proofs.YtdcdkckpmkfjdaaW.PrintWords Go.Proofs.YtdcdkckpmkfjdaaW.PrintLast Go.Proofs.YtdcdkckpmkfjdaaW.PrintMore
set_option linter.unusedVariables false
set_option maxRecDepth 100000

/-- Whether there is a table with the number k, and which it is. -/
def dwB (n k : Int) : Bool := inB n 1 4 && inB k 0 (((dsA n).length : Int) - 1)
def dwT (n k : Int) : List (List Int) := if dwB n k = true then (dsA n).getD k.toNat [] else []
theorem impl_DescendingWith_calls (n k : Int) (w : World) : Calls Try.prog 50 #[.int .i64 n, .int .i64 k] w (RetTT w (dwT n k) (dwB n k)) := by
  have hA := fun W => impl_AllDescending_calls n W
  have hl : (dsA n).length ≤ 4096 := (dsA_few n).1
  have hw := fun W => impl_within.calls k 0 (((dsA n).length : Int) - 1) (inB k 0 (((dsA n).length : Int) - 1)) W rfl
  unfold dwT dwB
  obtain ⟨L, hL⟩ : ∃ L, L = dsA n := ⟨_, rfl⟩
  rw [← hL] at hA hl hw ⊢
  clear hL
  cases hi : inB n 1 4 with
  | false =>
    rw [hi] at hA
    rw [Bool.false_and, if_neg (by simp)]
    clear hi hw
    go_enter Try.func50, Try.ntmps50
    go_wp2_with (go_at_call 43; refine (hA _).mono ?_; rintro e w1 ⟨v, rfl, _, hb⟩)
    go_ret2
    exact ⟨_, rfl, Kd.S_nil _ _ _ _ _, hb⟩
  | true =>
    rw [hi] at hA
    rw [Bool.true_and]
    cases hj : inB k 0 ((L.length : Int) - 1) with
    | false =>
      rw [hj] at hw
      rw [if_neg (by simp)]
      clear hi hj
      go_enter Try.func50, Try.ntmps50
      go_wp2_with (first | (go_at_call 43; refine (hA _).mono ?_; rintro e w1 ⟨v, rfl, hS, hb⟩; obtain ⟨A1, c1, rfl⟩ := Kd.R_slice (Kd.S_R hS); have HB := Aside0.mk hb; clear hS hb) | (go_at_call 93; refine (hw _).mono ?_; rintro e w2 ⟨rfl, hd⟩; have HB2 := Aside0.mk (below_step HB.out hd.below); clear hd))
      go_ret2
      exact ⟨_, rfl, Kd.S_nil _ _ _ _ _, HB2.out⟩
    | true =>
      rw [hj] at hw
      obtain ⟨h0, h1⟩ := inB_true hj
      obtain ⟨i, rfl⟩ : ∃ i : Nat, k = (i : Int) := ⟨k.toNat, by omega⟩
      rw [if_pos rfl, Int.toNat_natCast]
      have hlt : i < L.length := by omega
      clear hi hj
      go_enter Try.func50, Try.ntmps50
      go_wp2_with (first | (go_at_call 43; refine (hA _).mono ?_; rintro e w1 ⟨v, rfl, hS, hb⟩; obtain ⟨A1, c1, rfl⟩ := Kd.R_slice (Kd.S_R hS); have HS := Aside0.mk hS; have HB := Aside0.mk hb; clear hS hb) | (go_at_call 93; refine (hw _).mono ?_; rintro e w2 ⟨rfl, hd⟩; have HS2 := Aside0.mk (Kd.S_below HS.out hd.below); have HB2 := Aside0.mk (below_step HB.out hd.below); obtain ⟨ad, rfl, _⟩ := (Kd.R_reads' (Kd.S_R HS2.out)).2.2.2.2 (show 0 < L.length by omega); obtain ⟨g, rfl⟩ := Kd.R_head (Kd.S_R HS2.out); obtain ⟨oki, cs, hcl, hM, hcc, _, hoki, hH⟩ := Kd.S_elem HS2.out ([] : List (List Int)) (i : Int) (by omega) (by omega); obtain ⟨u, rfl, hR⟩ := hM; simp only [Int.toNat_natCast] at hR hcc; have hx := hcc 0 _ rfl; rw [show tabK.sz = 1 from rfl, Nat.mul_one, Nat.add_zero] at hx; have HR := Aside0.mk hR; clear hR hcc hoki hH hcl hd))
      go_ret2
      exact ⟨_, rfl, Kd.S_mono HR.out (fun _ _ => trivial), HB2.out⟩
theorem own_1 : ((dsX 1).all fun T => decide (spec_dpOwn.f 1000 T = some T)) = true := by decide +kernel
theorem own_2 : ((dsX 2).all fun T => decide (spec_dpOwn.f 1000 T = some T)) = true := by decide +kernel
theorem own_3 : ((dsX 3).all fun T => decide (spec_dpOwn.f 1000 T = some T)) = true := by decide +kernel
theorem own_4 : ((dsX 4).all fun T => decide (spec_dpOwn.f 1000 T = some T)) = true := by decide +kernel
theorem own_all {n : Int} (h0 : 1 ≤ n) (h1 : n ≤ 4) (T : List (List Int)) (hT : T ∈ dsX n) : spec_dpOwn.f 1000 T = some T := by
  have e : n = 1 ∨ n = 2 ∨ n = 3 ∨ n = 4 := by omega
  rcases e with rfl | rfl | rfl | rfl
  · exact of_decide_eq_true (List.all_eq_true.1 own_1 T hT)
  · exact of_decide_eq_true (List.all_eq_true.1 own_2 T hT)
  · exact of_decide_eq_true (List.all_eq_true.1 own_3 T hT)
  · exact of_decide_eq_true (List.all_eq_true.1 own_4 T hT)
theorem spec_DescendingWith_ev (n k : Int) : spec_DescendingWith.f 1000 n k = some (dwT n k, dwB n k) := by
  have hl := (dsA_few n).1
  unfold spec_DescendingWith.f dwT dwB
  rw [small_eq]
  simp only [Option.bind_some]
  cases hi : inB n 1 4 with
  | false => rw [Bool.false_and, if_neg (by simp), if_neg (by simp)]
  | true =>
    obtain ⟨h0, h1⟩ := inB_true hi
    have hA : dsA n = dsX n := by unfold dsA; rw [if_pos hi]
    rw [hA] at hl ⊢
    rw [if_pos rfl, (ds_all h0 (by omega)).sp, Bool.true_and]
    simp only [Option.bind_some]
    rw [wrapI (((dsX n).length : Int) - 1) (by omega) (by omega), in_eq]
    simp only [Option.bind_some]
    cases hj : inB k 0 (((dsX n).length : Int) - 1) with
    | false => rw [if_neg (by simp), if_neg (by simp)]
    | true =>
      obtain ⟨h2, h3⟩ := inB_true hj
      have hlt : k.toNat < (dsX n).length := by omega
      have hg : (dsX n).getD k.toNat [] ∈ dsX n := by rw [List.getD_eq_getElem?_getD, List.getElem?_eq_getElem hlt]; exact List.getElem_mem hlt
      rw [if_pos rfl, if_pos h2, if_pos (by omega), if_pos rfl, show rd_L2 (dsX n) k = (dsX n).getD k.toNat [] from rfl, own_all h0 h1 _ hg]
      rfl
theorem FnExactDescendingWith (n : Int) (_hx : (Lit.int .i64 n).wf = true) (k : Int) (_hy : (Lit.int .i64 k).wf = true) {W0 : World} (W : World) (_hW : W = W0) :
    Calls Try.prog 14 #[.int .i64 n, .int .i64 k] W fun e w' => e = .returned (.bool true) ∧ Below W.heap.size W w' := by
  refine lawDescendingWith n k _ _ W ?_ (fun W' => (spec_DescendingWith.calls 1000 n k _ _ W' (spec_DescendingWith_ev n k)).mono fun _ _ h => RetC.of_N h) (fun W' => impl_DescendingWith_calls n k W')
  have hf := dsA_few n
  unfold dwT
  split
  · rcases Nat.lt_or_ge k.toNat (dsA n).length with h | h
    · rw [List.getD_eq_getElem?_getD, List.getElem?_eq_getElem h]
      have hg := hf.2 _ (List.getElem_mem h)
      exact ⟨Nat.le_trans hg.1 (by omega), fun r hr => Nat.le_trans (hg.2 r hr) (by omega)⟩
    · rw [List.getD_eq_getElem?_getD, List.getElem?_eq_none h]; exact ⟨by simp, fun r hr => by simp at hr⟩
  · exact ⟨by simp, fun r hr => by simp at hr⟩
end Go.Proofs.Ytdcdkckpmkfjdaa.Law
