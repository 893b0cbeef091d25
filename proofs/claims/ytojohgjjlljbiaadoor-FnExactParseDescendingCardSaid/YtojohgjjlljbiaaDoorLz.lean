import Derived.Test.YtojohgjjlljbiaaDoorHw
namespace Go.Proofs.YtojohgjjlljbiaaDoor.L
open Go.RowKit Go.Proofs.YtojohgjjlljbiaaDoor Go.Proofs.YtojohgjjlljbiaaDoor.P Go.Proofs.YtojohgjjlljbiaaDoorW.PrintWords Go.Proofs.YtojohgjjlljbiaaDoorW.PrintLast Go.Proofs.YtojohgjjlljbiaaDoorW.PrintMore
set_option linter.unusedVariables false

/-- The blocks from a up to b. -/
def Itv (a b : Nat) : Nat → Prop := fun k => a ≤ k ∧ k < b
/-- A table that lies in the blocks from a to b alone. -/
structure Own (B a b : Nat) (w : World) (v : Value) (T : List (List Int)) : Prop where
  s : Kd.S (Kd.slice 3 (Kd.int .i64)) 30 w B (Itv a b) v T
  lo : B ≤ a
  hi : b ≤ w.heap.size
theorem Own.new {B : Nat} {w w' : World} {v : Value} {T : List (List Int)} (h : Kd.S (Kd.slice 3 (Kd.int .i64)) 30 w' w.heap.size (fun _ => True) v T) (hB : B ≤ w.heap.size) : Own B w.heap.size w'.heap.size w' v T :=
  ⟨Kd.S_lower (Kd.S_mono (Kd.S_bound h) (fun _ hk => ⟨hk.2.1, hk.2.2.1⟩)) hB, hB, Nat.le_refl _⟩
theorem Own.below {B a b : Nat} {w w' : World} {v : Value} {T : List (List Int)} (h : Own B a b w v T) (hb : Below w.heap.size w w') : Own B a b w' v T :=
  ⟨Kd.S_kept h.s (Kept.of_below hb (fun _ => False)) (fun _ _ h => h), h.lo, Nat.le_trans h.hi hb.size⟩
theorem Own.kept {B a b c d : Nat} {w w' : World} {v : Value} {T : List (List Int)} (h : Own B a b w v T) (hk : Kept w w' (Itv c d)) (hd : b ≤ c ∨ d ≤ a) : Own B a b w' v T :=
  ⟨Kd.S_kept h.s hk (fun k h1 h2 => by have := h1.1; have := h1.2; have := h2.1; have := h2.2; omega), h.lo, Nat.le_trans h.hi hk.1⟩
theorem Own.slice {B a b : Nat} {w : World} {v : Value} {T : List (List Int)} (h : Own B a b w v T) : ∃ A c, v = .slice A T.length c ∧ T.length ≤ c := by
  obtain ⟨A, c, rfl⟩ := Kd.R_slice (Kd.S_R h.s)
  exact ⟨A, c, rfl, (Kd.R_reads' (Kd.S_R h.s)).2.1⟩
theorem Own.reads {B a b n c : Nat} {A : Option Addr} {w : World} {T : List (List Int)} (h : Own B a b w (.slice A n c) T) : Kd.C (Kd.slice 3 (Kd.int .i64)) w A T.length T := (Kd.R_reads' (Kd.S_R h.s)).2.2
theorem Own.reads' {B a b n c m : Nat} {A : Option Addr} {w : World} {T : List (List Int)} (h : Own B a b w (.slice A n c) T) (e : T.length = m) : Kd.C (Kd.slice 3 (Kd.int .i64)) w A m T := e ▸ h.reads
theorem nTo_le (T : List (List Int)) (n M : Nat) (h : ∀ r ∈ T, r.length ≤ M) : ∀ i, nTo T n i ≤ n + i * M
  | 0 => by simp [nTo]
  | i + 1 => by
    have := nTo_le T n M h i
    have h2 : (T.getD i []).length ≤ M := by
      rw [List.getD_eq_getElem?_getD]
      rcases Nat.lt_or_ge i T.length with hi | hi
      · rw [List.getElem?_eq_getElem hi]; exact h _ (List.getElem_mem hi)
      · rw [List.getElem?_eq_none hi]; simp
    rw [nTo, Nat.succ_mul]
    omega
theorem few_n {T : List (List Int)} (h : fewRows T) : nTo T 1 T.length ≤ 4611686018427387904 := by
  have h1 := nTo_le T 1 1048576 h.2 T.length
  have h2 : T.length * 1048576 ≤ 1048576 * 1048576 := Nat.mul_le_mul_right _ h.1
  omega
/-- Marking. -/
theorem mark_own {B a b : Nat} {v : Value} {T : List (List Int)} {W w : World} (hW : W.heap.size = B) (hB : Below B W w) (h : Own B a b w v T) (hf : fewRows T) :
    Calls Tryd.prog 7 #[v, .int .i64 1] w fun e w' => e = .returned (.int .i64 (nTo T 1 T.length : Nat)) ∧ Own B a b w' v (markT T 1) ∧ Below B W w' ∧ Kept w w' (Itv a b) := by
  subst hW
  refine (markIntSS_calls (Itv a b) v T 1 W w hB h.s (few_n hf)).mono ?_
  rintro e w' ⟨h1, h2, h3, h4⟩
  exact ⟨h1, ⟨h2, h.lo, Nat.le_trans h.hi h4.1⟩, h3, h4⟩
end Go.Proofs.YtojohgjjlljbiaaDoor.L
