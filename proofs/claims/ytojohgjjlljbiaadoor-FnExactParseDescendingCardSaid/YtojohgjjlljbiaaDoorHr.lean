import Derived.Test.YtojohgjjlljbiaaDoorHA
import Derived.Test.YtojohgjjlljbiaaDoorWMore
import Derived.Test.YtojohgjjlljbiaaDoorWTab
import Derived.Test.YtojohgjjlljbiaaDoorWFour
import Derived.Test.YtojohgjjlljbiaaDoorWKept
import Derived.Test.YtojohgjjlljbiaaDoorWApart
namespace Go.Proofs.YtojohgjjlljbiaaDoor
open Go.RowKit Go.Proofs.YtojohgjjlljbiaaDoorW.PrintWords Go.Proofs.YtojohgjjlljbiaaDoorW.PrintLast Go.Proofs.YtojohgjjlljbiaaDoorW.PrintMore
set_option linter.unusedVariables false
set_option linter.unusedSimpArgs false

/-- Row i of a table of the call's own: it stays as long as only block g is written, or what is new. -/
theorem rowKept {w1 : World} {base g : Nat} {P : Nat → Prop} {A : Option Addr} {n c : Nat} {T : List (List Int)} (h : Kd.S (Kd.slice 3 (Kd.int .i64)) 30 w1 base P (.slice A n c) T) (hg : g < base) (i : Nat) (hi : i < T.length) :
    ∃ (g0 : Nat) (A1 : Option Addr) (c1 : Nat), A = some ⟨g0, 0, none⟩ ∧ ∀ W', Kept w1 W' (fun k => k = g) → W'.cell? ⟨g0, i, none⟩ = some (.slice A1 (T.getD i []).length c1) ∧ (T.getD i []).length ≤ c1 ∧ (Kd.int .i64).C W' A1 (T.getD i []).length (T.getD i []) := by
  have hb := Kd.S_bound h
  obtain ⟨ad, rfl, _⟩ := (Kd.R_reads' (Kd.S_R hb)).2.2.2.2 (show 0 < T.length by omega)
  have hn := (Kd.R_reads' (Kd.S_R hb)).1
  obtain ⟨g0, rfl⟩ := Kd.R_head (Kd.S_R hb)
  obtain ⟨oki, cs, hcl, hM, hcc, hfr, hoki, hH⟩ := Kd.S_elem hb ([] : List Int) (i : Int) (by omega) (by omega)
  obtain ⟨v, rfl, hR⟩ := hM
  simp only [Int.toNat_natCast] at hR hcc
  obtain ⟨A1, c1, rfl⟩ := Kd.R_slice hR
  refine ⟨g0, A1, c1, rfl, fun W' hk => ?_⟩
  have h2 := Kd.R_reads' (Kd.R_kept hR hk (fun k ho e => by have := (hoki k ho).1.2.1; omega))
  have hc := hcc 0 _ rfl
  have h0 := (Kd.S_R hb).1 g0 rfl
  have hsz : (Kd.slice 3 (Kd.int .i64)).sz = 1 := rfl
  rw [hsz, Nat.mul_one, Nat.add_zero] at hc
  exact ⟨cell_kept hc hk (by show ¬ g0 = g; have := h0.2.1; omega), h2.2.1, h2.2.2⟩
end Go.Proofs.YtojohgjjlljbiaaDoor
