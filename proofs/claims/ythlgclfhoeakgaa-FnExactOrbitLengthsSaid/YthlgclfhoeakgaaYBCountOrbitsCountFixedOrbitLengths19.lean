/- Texts of one chain, in build order. -/
import Derived.Test.YthlgclfhoeakgaaYBCountOrbitsCountFixedOrbitLengths18
import Derived.Laws.EntriesVeiled
import Derived.Deep.RegionLawGrows
namespace Go.Proofs.Ythlgclfhoeakgaa
open Go.RowKit Go.Proofs.YthlgclfhoeakgaaW.PrintWords Go.Proofs.YthlgclfhoeakgaaW.PrintLast Go.Proofs.YthlgclfhoeakgaaW.PrintMore
set_option linter.unusedVariables false
set_option linter.unusedSimpArgs false
theorem i64_of (x : Int) (h0 : -9223372036854775808 ≤ x) (h1 : x ≤ 9223372036854775807) : IntKind.i64.wrap x = x := IntWalk.i64_in _ ⟨h0, h1⟩
theorem blk_new_at {w : World} {o : Obj} {g : Nat} (h : g = w.heap.size) : (w.alloc o).heap[g]? = some o := h ▸ blk_new w o
theorem S_empty {α : Type} {d : Kd α} {e : Nat} {W : World} {B g : Nat} {ok : Nat → Prop} (h : W.heap[g]? = some (.cells #[] e (0, 0))) (hB : B ≤ g) (hok : ok g) : Kd.S d e W B ok (.slice (some ⟨g, 0, none⟩) 0 0) [] := by
 refine ⟨fun _ => 0, fun k hk => ?_, [], ⟨by simp, .inr ⟨g, 0, #[], rfl, hB, h, Nat.le_refl _, by unfold maxLen; omega, by simp, by simp⟩⟩, Reps.none _ _⟩
 have : g = k := by simpa [Value.ownBlock] using hk
 exact this ▸ hok
end Go.Proofs.Ythlgclfhoeakgaa
namespace Go.Proofs.Ythlgclfhoeakgaa
open Go.RowKit Go.Proofs.YthlgclfhoeakgaaW.PrintWords Go.Proofs.YthlgclfhoeakgaaW.PrintLast Go.Proofs.YthlgclfhoeakgaaW.PrintMore
set_option linter.unusedVariables false
set_option linter.unusedSimpArgs false
/-- A row of rows of the call's own, the rows only read. -/
structure RawN (W : World) (B : Nat) (ok : Nat → Prop) (g cap : Nat) (us : List Value) (l : List (List Int)) : Prop where
 len : us.length = l.length
 le : l.length ≤ cap
 max : cap ≤ maxLen
 ge : B ≤ g
 okg : ok g
 top : ∃ cur : Array Value, W.heap[g]? = some (.cells cur 34 (0, 0)) ∧ cur.size = cap ∧ cur.toList.take l.length = us
 each : ∀ (j : Nat) (x : List Int) (u : Value), l[j]? = some x → us[j]? = some u → Kd.FK (Kd.slice 3 (Kd.int .i64)) W (fun k => ok k ∧ k ≠ g) x [u]
theorem RawN.N {W : World} {B : Nat} {ok : Nat → Prop} {g cap : Nat} {us : List Value} {l : List (List Int)} (h : RawN W B ok g cap us l) : Kd.N (Kd.slice 3 (Kd.int .i64)) 34 W B ok (.slice (some ⟨g, 0, none⟩) l.length cap) l := by
 obtain ⟨cur, hh, hsz, htk⟩ := h.top
 have hsz1 : (Kd.raw (Kd.slice 3 (Kd.int .i64)).sz).sz = 1 := rfl
 have hlr : (us.map fun u => [u]).length = l.length := by rw [List.length_map, h.len]
 refine ⟨fun k hk => ?_, us.map fun u => [u], hlr, ⟨fun k hk => hk.symm, us, ?_, ?_⟩, ?_⟩
 ·have : g = k := by simpa [Value.ownBlock] using hk
  exact this ▸ h.okg
 ·rw [hlr]
  exact ⟨by rw [hsz1, Nat.mul_one]; exact h.len, .inr ⟨g, cap, cur, rfl, h.ge, hh, h.le, h.max, by rw [hsz1, Nat.mul_one]; exact hsz, by rw [hsz1, Nat.mul_one]; exact htk⟩⟩
 ·refine ⟨by rw [hsz1, Nat.mul_one, List.length_map], fun j c hj => ?_⟩
  rw [List.getElem?_map] at hj
  obtain ⟨u, hu, rfl⟩ := Option.map_eq_some_iff.1 hj
  have hju : j < us.length := (List.getElem?_eq_some_iff.1 hu).1
  have hjl : j < l.length := by rw [← h.len]; exact hju
  rw [hsz1, Nat.mul_one, List.drop_eq_getElem_cons hju, List.take_succ_cons, List.take_zero, (List.getElem?_eq_some_iff.1 hu).2]
  exact ⟨rfl, rfl, (Kd.slice 3 (Kd.int .i64)).K_one (Kd.FK_now (h.each j l[j] u (List.getElem?_eq_getElem hjl) hu))⟩
 ·intro j x c hx hc
  rw [List.getElem?_map] at hc
  obtain ⟨u, hu, rfl⟩ := Option.map_eq_some_iff.1 hc
  exact Kd.FK_mono (h.each j x u hx hu) (fun k hk => ⟨hk.1, fun e => hk.2 (by simpa [Value.ownBlock] using e)⟩)
end Go.Proofs.Ythlgclfhoeakgaa
namespace Go.Proofs.Ythlgclfhoeakgaa
open Go.RowKit Go.Proofs.YthlgclfhoeakgaaW.PrintWords Go.Proofs.YthlgclfhoeakgaaW.PrintLast Go.Proofs.YthlgclfhoeakgaaW.PrintMore
set_option linter.unusedVariables false
set_option linter.unusedSimpArgs false
/-- The cells of a row that is read. -/
theorem C_cells {W : World} {A : Option Addr} {l : List (List Int)} (h : Kd.C (Kd.slice 3 (Kd.int .i64)) W A l.length l) : ∃ us : List Value, us.length = l.length ∧ Kd.C (Kd.raw 1) W A us.length (us.map fun u => [u]) ∧ (∀ u ∈ us, u.oneCell' = true) ∧ ∀ ad, A = some ad → ∀ j u, us[j]? = some u → W.cell? (ad.add j) = some u := by
 rcases Nat.eq_zero_or_pos l.length with h0 | h0
 ·exact ⟨[], by simp [h0], ⟨rfl, by simp, fun h => absurd h (Nat.lt_irrefl 0)⟩, by simp, by simp⟩
 ·obtain ⟨hl, hm, hn⟩ := h
  obtain ⟨ad, rfl, hc⟩ := hn h0
  have hx : ∀ j, j < l.length → ∃ u : Value, u.oneCell' = true ∧ W.cell? (ad.add j) = some u := fun j hj => by
   obtain ⟨c, hcs, hK, hcell⟩ := hc j l[j] (List.getElem?_eq_getElem hj)
   have hcl : c.length = 1 := hcs
   obtain ⟨u, rfl⟩ := List.length_eq_one_iff.1 hcl
   have := hcell 0 u rfl
   have hsz : (Kd.slice 3 (Kd.int .i64)).sz = 1 := rfl
   rw [hsz, Nat.mul_one, Nat.add_zero] at this
   exact ⟨u, (Kd.slice 3 (Kd.int .i64)).K_one hK u (List.mem_singleton.2 rfl), this⟩
  refine ⟨(List.range l.length).map fun j => (W.cell? (ad.add j)).getD (.bool false), by simp, ?_, ?_, ?_⟩
  ·refine ⟨by simp, by simpa using hm, fun _ => ⟨ad, rfl, fun j p hj => ?_⟩⟩
   rw [List.getElem?_map, List.getElem?_map] at hj
   have hj2 : j < l.length := by
    rcases Nat.lt_or_ge j l.length with h | h
    ·exact h
    ·rw [List.getElem?_eq_none (by simpa using h)] at hj; simp at hj
   rw [List.getElem?_range hj2] at hj
   obtain ⟨u, h1, h2⟩ := hx j hj2
   simp only [Option.map_some, Option.some.injEq, h2, Option.getD_some] at hj
   subst hj
   refine ⟨[u], rfl, ⟨rfl, rfl, fun q hq => by rw [List.mem_singleton.1 hq]; exact h1⟩, fun i q hq => ?_⟩
   rcases i with _ | i
   ·simp only [List.getElem?_cons_zero, Option.some.injEq] at hq
    subst hq
    rw [Nat.add_zero, show (Kd.raw 1).sz = 1 from rfl, Nat.mul_one]; exact h2
   ·simp at hq
  ·intro u hu
   obtain ⟨j, hj, rfl⟩ := List.mem_map.1 hu
   obtain ⟨u, h1, h2⟩ := hx j (List.mem_range.1 hj)
   rw [h2]; exact h1
  ·intro ad' e j u hu
   injection e with e
   subst e
   rw [List.getElem?_map] at hu
   have hj2 : j < l.length := by
    rcases Nat.lt_or_ge j l.length with h | h
    ·exact h
    ·rw [List.getElem?_eq_none (by simpa using h)] at hu; simp at hu
   rw [List.getElem?_range hj2] at hu
   obtain ⟨u', h1, h2⟩ := hx j hj2
   simp only [Option.map_some, Option.some.injEq, h2, Option.getD_some] at hu
   exact hu ▸ h2
theorem info_rowsU : (Try.prog.info? 34).map (fun i => (i.zero, i.size, i.bytes)) = some (some (.slice none 0 0), 1, 24) := by kernel_rfl
end Go.Proofs.Ythlgclfhoeakgaa
namespace Go.Proofs.Ythlgclfhoeakgaa
open Go.RowKit Go.Proofs.YthlgclfhoeakgaaW.PrintWords Go.Proofs.YthlgclfhoeakgaaW.PrintLast Go.Proofs.YthlgclfhoeakgaaW.PrintMore
set_option linter.unusedVariables false
set_option linter.unusedSimpArgs false
/-- Blocks that stay as they are. -/
def frD (W : World) (bo : Nat) (v : Value) : Nat → Prop := fun k => (k ≠ bo ∧ some k ≠ v.ownBlock) ∧ k < W.heap.size
/-- What is written. -/
def tD (bo : Nat) (v : Value) : Nat → Prop := fun k => k = bo ∨ some k = v.ownBlock
theorem frD_step {W W' : World} {bo : Nat} {v v' : Value} (ht : Touch W W' (tD bo v)) (hv : ∀ k, some k = v'.ownBlock → some k = v.ownBlock ∨ W.heap.size ≤ k) : ∀ k, frD W bo v k → frD W' bo v' k :=
 fun k hk => ⟨⟨hk.1.1, fun e => (hv k e).elim hk.1.2 (fun h => by have := hk.2; omega)⟩, Nat.lt_of_lt_of_le hk.2 ht.size⟩
def okD (bo ba bl : Nat) : Nat → Prop := fun k => k ≠ bo ∧ k ≠ ba ∧ k ≠ bl
/-- A row appended to a cut of rows that are only read. -/
theorem app1_F {w w1 w9 : World} {ok : Nat → Prop} {A Ar : Option Addr} {cr : Nat} {rows : List (List Int)} {row : List Int} {us : List Value} {v9 : Value} (hF : Kd.F (Kd.slice 3 (Kd.int .i64)) w ok A rows.length rows) (hul : us.length = rows.length) (hus : ∀ ad, A = some ad → ∀ j u, us[j]? = some u → w.cell? (ad.add j) = some u)
  (hrow : Kd.F (Kd.int .i64) w ok Ar row.length row) (hcr : row.length ≤ cr) (hb : Below w.heap.size w w1) (how : w9.ownsRow w1.heap.size 34 1 v9 (rows.length + 1) (us ++ [.slice Ar row.length cr])) (hg : w1.grownBy w9 none) :
  ∃ A9 c9, v9 = .slice A9 (rows ++ [row]).length c9 ∧ (rows ++ [row]).length ≤ c9 ∧ Kd.F (Kd.slice 3 (Kd.int .i64)) w9 (fun k => ok k ∨ w.heap.size ≤ k) A9 (rows ++ [row]).length (rows ++ [row]) ∧ Below w1.heap.size w1 w9 := by
 have hb9 : Below w1.heap.size w1 w9 := ⟨hg.os, hg.tape, hg.output, hg.size, fun k hk => hg.block k hk (by simp)⟩
 have hbw : Below w.heap.size w w9 := hb.trans (hb9.mono hb.size)
 have hlr : (rows ++ [row]).length = rows.length + 1 := by simp
 obtain ⟨hl, hc⟩ := how
 rcases hc with ⟨_, h0⟩ | ⟨g, cap, cur, rfl, hgB, hh, hle, hmx, hsz, htk⟩
 ·omega
 ·rw [Nat.mul_one] at hsz htk
  have hR : RawN w9 w1.heap.size (fun k => ok k ∨ w.heap.size ≤ k) g cap (us ++ [.slice Ar row.length cr]) (rows ++ [row]) := by
   refine ⟨by simp [hul], by omega, hmx, hgB, .inr (Nat.le_trans hb.size hgB), ⟨cur, hh, hsz, by rw [hlr]; exact htk⟩, fun j x u hx hu => ?_⟩
   rcases Nat.lt_or_ge j rows.length with hj | hj
   ·rw [List.getElem?_append_left hj] at hx
    rw [List.getElem?_append_left (by omega)] at hu
    obtain ⟨ad, c, hA, hcl, hFK, hcell, _⟩ := Kd.F_get hF ([] : List Int) (j : Int) (by omega) (by omega)
    have hcl1 : c.length = 1 := hcl
    obtain ⟨q, rfl⟩ := List.length_eq_one_iff.1 hcl1
    have h1 := hcell 0 q rfl
    rw [Int.toNat_natCast, show (Kd.slice 3 (Kd.int .i64)).sz = 1 from rfl, Nat.mul_one, Nat.add_zero, hus ad hA j u hu] at h1
    obtain rfl := Option.some.inj h1
    rw [Int.toNat_natCast, List.getD_eq_getElem?_getD, hx] at hFK
    exact Kd.FK_mono (Kd.FK_below (Foot.bound hFK) hbw) (fun k hk => ⟨.inl hk.1, by have := hk.2; have := hb.size; omega⟩)
   ·have hje : j = rows.length := by
     have := (List.getElem?_eq_some_iff.1 hx).1
     rw [hlr] at this; omega
    subst hje
    rw [List.getElem?_append_right (Nat.le_refl _), Nat.sub_self] at hx
    rw [List.getElem?_append_right (by omega), hul, Nat.sub_self] at hu
    simp only [List.getElem?_cons_zero, Option.some.injEq] at hx hu
    subst hx hu
    exact Kd.FK_mono (Kd.FK_below (Foot.bound (Kd.FK_slice_mk hcr hrow)) hbw) (fun k hk => ⟨.inl hk.1, by have := hk.2; have := hb.size; omega⟩)
  have hN := hR.N
  exact ⟨_, cap, by rw [hlr], by omega, Kd.N_F hN, hb9⟩
end Go.Proofs.Ythlgclfhoeakgaa
namespace Go.Proofs.Ythlgclfhoeakgaa.L
open Go.RowKit Go.Proofs.Ythlgclfhoeakgaa Go.Proofs.YthlgclfhoeakgaaW.PrintWords Go.Proofs.YthlgclfhoeakgaaW.PrintLast Go.Proofs.YthlgclfhoeakgaaW.PrintMore
set_option linter.unusedVariables false
set_option linter.unusedSimpArgs false
/-- A row added to the sums of the columns. -/
def addR (s r : List Int) (j : Nat) : List Int := (List.range j).foldl (fun s j => s.set j (wrap64 (rd s j + rd r j))) s
theorem addR_succ (s r : List Int) (j : Nat) : addR s r (j + 1) = (addR s r j).set j (wrap64 (rd (addR s r j) j + rd r j)) := by
 unfold addR
 rw [List.range_succ, List.foldl_append]
 rfl
theorem addR_length (s r : List Int) : ∀ j, (addR s r j).length = s.length
 | 0 => rfl
 | j + 1 => by rw [addR_succ, List.length_set, addR_length s r j]
end Go.Proofs.Ythlgclfhoeakgaa.L
namespace Go.Proofs.Ythlgclfhoeakgaa.P
end Go.Proofs.Ythlgclfhoeakgaa.P
namespace Go.Proofs.Ythlgclfhoeakgaa.L
end Go.Proofs.Ythlgclfhoeakgaa.L
