import Derived.SizedLaws
import Derived.ChangeSlices
import Derived.Deep.Matrix
import Derived.Test.YtojohgjjlljbiaaDoorWMore
namespace Go.Proofs.YtojohgjjlljbiaaDoor
open Go.ChangeShapes Go.WideShapes Go.Deep
open Go.RowKit Go.Proofs.YtojohgjjlljbiaaDoorW.PrintWords Go.Proofs.YtojohgjjlljbiaaDoorW.PrintLast Go.Proofs.YtojohgjjlljbiaaDoorW.PrintMore

/-- A slice of slices of whole numbers that comes in. -/
structure RowsIn (W : World) (A : Option Addr) (len cap : Nat) (l : List (List Int)) : Prop where
  len : l.length = len
  read : Kd.C (Kd.slice 3 (Kd.int .i64)) W A l.length l
  le : l.length ≤ cap
  size : l.length * 24 ≤ 140737488351232
  rows : ∀ r ∈ l, r.length ≤ 9223372036854775807 ∧ ∀ x ∈ r, (Lit.int .i64 x).wf = true

theorem rows_in {H : Type} {enc : TypeId × Value → H} {P : Program} {W : World} {base : Nat} {held : Bool} {t e q : TypeId} {a : Option Addr} {len cap : Nat} {d : DataW H} {ps : List MemPlace} {ts : List TypeId} {ds : List (DataW H)} {j : Nat}
    (hsz : (DataW.weightsEach P ts ds).all (· ≤ reachBytes) = true) (ht : ts[j]? = some t) (hd : ds[j]? = some d) (hu : P.underlying t = some (.slice e)) (he : P.underlying e = some (.slice q)) (hq : P.underlying q = some (.int .i64)) (hc : P.cellsOf e = 1) (hcq : P.cellsOf q = 1) (hB : P.bytesOf e = 24)
    (h : DataW.Trod enc P W base (fun _ => true) held t (.slice a len cap) d ps) : ∃ l : List (List Int), RowsIn W a len cap l := by
  obtain ⟨fuel, hf⟩ := h
  rcases open_int_rows hu he hq hc hcq hf with ⟨hcs, _⟩ | ⟨x, n, c, A, L, C, Z, hcs, _, hl, hm, hx, hr⟩
  · simp [Value.cells] at hcs
    obtain ⟨rfl, rfl, rfl⟩ := hcs
    exact ⟨[], rfl, ⟨rfl, by simp, fun h => absurd h (by simp)⟩, by simp, by simp, fun r hr => by cases hr⟩
  · simp [Value.cells] at hcs
    obtain ⟨rfl, rfl, rfl⟩ := hcs
    obtain ⟨hx, _⟩ := Prod.mk.inj hx
    subst hx
    have z := sized_slice hsz ht hd hu
    rw [hB] at z
    unfold maxLen at hm
    have hb : reachBytes = 140737488351232 := by decide
    rw [hb] at z
    simp only [List.length_map, List.length_range] at z
    have hlen : ((List.range len).map fun r => (Z r).take (L r)).length = len := by simp
    refine ⟨(List.range len).map fun r => (Z r).take (L r), hlen, ?_, by rw [hlen]; exact hl, by rw [hlen]; omega, ?_⟩
    · rw [hlen]
      refine ⟨hlen, by omega, fun _ => ⟨x, rfl, fun i p hi => ?_⟩⟩
      have hi2 : i < len := by have := (List.getElem?_eq_some_iff.1 hi).1; simpa using this
      have hp : p = (Z i).take (L i) := by
        have := (List.getElem?_eq_some_iff.1 hi).2
        rw [← this]; simp
      subst hp
      obtain ⟨h1, h2, h3, h4, h5, h6, h7⟩ := hr i (by omega)
      have hpl : ((Z i).take (L i)).length = L i := by rw [List.length_take]; omega
      unfold maxLen at h3
      refine ⟨[.slice (A i) (L i) (C i)], rfl, ⟨A i, C i, by rw [hpl], by rw [hpl]; exact h2, ?_⟩, ?_⟩
      · rw [hpl]
        refine ⟨hpl, by omega, fun hpos => ?_⟩
        cases ha : A i with
        | none => exact absurd (h6 ha) (by omega)
        | some a' =>
          refine ⟨a', rfl, fun k y hk => ⟨[.int .i64 y], rfl, rfl, fun m u hu => ?_⟩⟩
          have hk2 : k < L i := by have := (List.getElem?_eq_some_iff.1 hk).1; rw [hpl] at this; exact this
          have hy : (Z i).getD k 0 = y := by
            have := (List.getElem?_eq_some_iff.1 hk).2
            rw [List.getElem_take] at this
            rw [List.getD_eq_getElem?_getD, List.getElem?_eq_getElem (by omega)]
            exact this
          have hm0 : m = 0 := by
            have := (List.getElem?_eq_some_iff.1 hu).1
            simp at this; exact this
          subst hm0
          have hu2 : u = .int .i64 y := by simpa using hu.symm
          subst hu2
          have := (h7 a' ha).2 k (by omega)
          rw [hy] at this
          show W.cell? (a'.add (k * 1 + 0)) = _
          rw [Nat.mul_one, Nat.add_zero]
          exact this
      · intro m u hu
        have hm0 : m = 0 := by
          have := (List.getElem?_eq_some_iff.1 hu).1
          simp at this; exact this
        subst hm0
        have hu2 : u = .slice (A i) (L i) (C i) := by simpa using hu.symm
        subst hu2
        show W.cell? (x.add (i * 1 + 0)) = _
        rw [Nat.mul_one, Nat.add_zero]
        exact h1
    · intro r hr2
      obtain ⟨i, hi, rfl⟩ := List.mem_map.1 hr2
      obtain ⟨h1, h2, h3, h4, h5, h6, h7⟩ := hr i (by have := List.mem_range.1 hi; omega)
      unfold maxLen at h3
      exact ⟨by rw [List.length_take]; omega, fun y hy => h5 y (List.mem_of_mem_take hy)⟩
end Go.Proofs.YtojohgjjlljbiaaDoor
