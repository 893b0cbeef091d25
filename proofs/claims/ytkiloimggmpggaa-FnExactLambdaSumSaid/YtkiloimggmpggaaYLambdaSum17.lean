/- Texts of one chain, in build order. -/
import Derived.Test.YtkiloimggmpggaaYLambdaSum16
import Derived.Laws.EntriesVeiled
import Derived.Deep.RegionLawGrows
namespace Go.Proofs.Ytkiloimggmpggaa
open Go.RowKit Go.Proofs.YtkiloimggmpggaaW.PrintWords Go.Proofs.YtkiloimggmpggaaW.PrintLast Go.Proofs.YtkiloimggmpggaaW.PrintMore
set_option linter.unusedVariables false
set_option linter.unusedSimpArgs false
theorem i64_of (x : Int) (h0 : -9223372036854775808 ≤ x) (h1 : x ≤ 9223372036854775807) : IntKind.i64.wrap x = x := IntWalk.i64_in _ ⟨h0, h1⟩
theorem blk_new_at {w : World} {o : Obj} {g : Nat} (h : g = w.heap.size) : (w.alloc o).heap[g]? = some o := h ▸ blk_new w o
theorem S_empty {α : Type} {d : Kd α} {e : Nat} {W : World} {B g : Nat} {ok : Nat → Prop} (h : W.heap[g]? = some (.cells #[] e (0, 0))) (hB : B ≤ g) (hok : ok g) : Kd.S d e W B ok (.slice (some ⟨g, 0, none⟩) 0 0) [] := by
  refine ⟨fun _ => 0, fun k hk => ?_, [], ⟨by simp, .inr ⟨g, 0, #[], rfl, hB, h, Nat.le_refl _, by unfold maxLen; omega, by simp, by simp⟩⟩, Reps.none _ _⟩
  have : g = k := by simpa [Value.ownBlock] using hk
  exact this ▸ hok
end Go.Proofs.Ytkiloimggmpggaa
namespace Go.Proofs.Ytkiloimggmpggaa
open Go.RowKit Go.Proofs.YtkiloimggmpggaaW.PrintWords Go.Proofs.YtkiloimggmpggaaW.PrintLast Go.Proofs.YtkiloimggmpggaaW.PrintMore
set_option linter.unusedVariables false
set_option linter.unusedSimpArgs false
/-- A row of rows of the call's own, the rows only read. -/
structure RawN (W : World) (B : Nat) (ok : Nat → Prop) (g cap : Nat) (us : List Value) (l : List (List Int)) : Prop where
  len : us.length = l.length
  le : l.length ≤ cap
  max : cap ≤ maxLen
  ge : B ≤ g
  okg : ok g
  top : ∃ cur : Array Value, W.heap[g]? = some (.cells cur 38 (0, 0)) ∧ cur.size = cap ∧ cur.toList.take l.length = us
  each : ∀ (j : Nat) (x : List Int) (u : Value), l[j]? = some x → us[j]? = some u → Kd.FK (Kd.slice 3 (Kd.int .i64)) W (fun k => ok k ∧ k ≠ g) x [u]
theorem RawN.N {W : World} {B : Nat} {ok : Nat → Prop} {g cap : Nat} {us : List Value} {l : List (List Int)} (h : RawN W B ok g cap us l) : Kd.N (Kd.slice 3 (Kd.int .i64)) 38 W B ok (.slice (some ⟨g, 0, none⟩) l.length cap) l := by
  obtain ⟨cur, hh, hsz, htk⟩ := h.top
  have hsz1 : (Kd.raw (Kd.slice 3 (Kd.int .i64)).sz).sz = 1 := rfl
  have hlr : (us.map fun u => [u]).length = l.length := by rw [List.length_map, h.len]
  refine ⟨fun k hk => ?_, us.map fun u => [u], hlr, ⟨fun k hk => hk.symm, us, ?_, ?_⟩, ?_⟩
  · have : g = k := by simpa [Value.ownBlock] using hk
    exact this ▸ h.okg
  · rw [hlr]
    exact ⟨by rw [hsz1, Nat.mul_one]; exact h.len, .inr ⟨g, cap, cur, rfl, h.ge, hh, h.le, h.max, by rw [hsz1, Nat.mul_one]; exact hsz, by rw [hsz1, Nat.mul_one]; exact htk⟩⟩
  · refine ⟨by rw [hsz1, Nat.mul_one, List.length_map], fun j c hj => ?_⟩
    rw [List.getElem?_map] at hj
    obtain ⟨u, hu, rfl⟩ := Option.map_eq_some_iff.1 hj
    have hju : j < us.length := (List.getElem?_eq_some_iff.1 hu).1
    have hjl : j < l.length := by rw [← h.len]; exact hju
    rw [hsz1, Nat.mul_one, List.drop_eq_getElem_cons hju, List.take_succ_cons, List.take_zero, (List.getElem?_eq_some_iff.1 hu).2]
    exact ⟨rfl, rfl, (Kd.slice 3 (Kd.int .i64)).K_one (Kd.FK_now (h.each j l[j] u (List.getElem?_eq_getElem hjl) hu))⟩
  · intro j x c hx hc
    rw [List.getElem?_map] at hc
    obtain ⟨u, hu, rfl⟩ := Option.map_eq_some_iff.1 hc
    exact Kd.FK_mono (h.each j x u hx hu) (fun k hk => ⟨hk.1, fun e => hk.2 (by simpa [Value.ownBlock] using e)⟩)
end Go.Proofs.Ytkiloimggmpggaa
namespace Go.Proofs.Ytkiloimggmpggaa
open Go.RowKit Go.Proofs.YtkiloimggmpggaaW.PrintWords Go.Proofs.YtkiloimggmpggaaW.PrintLast Go.Proofs.YtkiloimggmpggaaW.PrintMore
set_option linter.unusedVariables false
set_option linter.unusedSimpArgs false
/-- The cells of a row that is read. -/
theorem C_cells {W : World} {A : Option Addr} {l : List (List Int)} (h : Kd.C (Kd.slice 3 (Kd.int .i64)) W A l.length l) : ∃ us : List Value, us.length = l.length ∧ Kd.C (Kd.raw 1) W A us.length (us.map fun u => [u]) ∧ (∀ u ∈ us, u.oneCell' = true) ∧ ∀ ad, A = some ad → ∀ j u, us[j]? = some u → W.cell? (ad.add j) = some u := by
  rcases Nat.eq_zero_or_pos l.length with h0 | h0
  · exact ⟨[], by simp [h0], ⟨rfl, by simp, fun h => absurd h (Nat.lt_irrefl 0)⟩, by simp, by simp⟩
  · obtain ⟨hl, hm, hn⟩ := h
    obtain ⟨ad, rfl, hc⟩ := hn h0
    have hx : ∀ j, j < l.length → ∃ u : Value, u.oneCell' = true ∧ W.cell? (ad.add j) = some u := fun j hj => by
      obtain ⟨c, hcs, hK, hcell⟩ := hc j l[j] (List.getElem?_eq_getElem hj)
      have hcl : c.length = 1 := hcs
      obtain ⟨u, rfl⟩ := List.length_eq_one_iff.1 hcl
      have := hcell 0 u rfl
      have hsz : (Kd.slice 3 (Kd.int .i64)).sz = 1 := rfl
      rw [hsz, Nat.mul_one, Nat.add_zero] at this
      exact ⟨u, (Kd.slice 3 (Kd.int .i64)).K_one hK u (List.mem_singleton.2 rfl), this⟩
    refine ⟨(List.range l.length).map fun j => (W.cell? (ad.add j)).getD (.bool false), by simp, ?_, ?_, ?_⟩
    · refine ⟨by simp, by simpa using hm, fun _ => ⟨ad, rfl, fun j p hj => ?_⟩⟩
      rw [List.getElem?_map, List.getElem?_map] at hj
      have hj2 : j < l.length := by
        rcases Nat.lt_or_ge j l.length with h | h
        · exact h
        · rw [List.getElem?_eq_none (by simpa using h)] at hj; simp at hj
      rw [List.getElem?_range hj2] at hj
      obtain ⟨u, h1, h2⟩ := hx j hj2
      simp only [Option.map_some, Option.some.injEq, h2, Option.getD_some] at hj
      subst hj
      refine ⟨[u], rfl, ⟨rfl, rfl, fun q hq => by rw [List.mem_singleton.1 hq]; exact h1⟩, fun i q hq => ?_⟩
      rcases i with _ | i
      · simp only [List.getElem?_cons_zero, Option.some.injEq] at hq
        subst hq
        rw [Nat.add_zero, show (Kd.raw 1).sz = 1 from rfl, Nat.mul_one]; exact h2
      · simp at hq
    · intro u hu
      obtain ⟨j, hj, rfl⟩ := List.mem_map.1 hu
      obtain ⟨u, h1, h2⟩ := hx j (List.mem_range.1 hj)
      rw [h2]; exact h1
    · intro ad' e j u hu
      injection e with e
      subst e
      rw [List.getElem?_map] at hu
      have hj2 : j < l.length := by
        rcases Nat.lt_or_ge j l.length with h | h
        · exact h
        · rw [List.getElem?_eq_none (by simpa using h)] at hu; simp at hu
      rw [List.getElem?_range hj2] at hu
      obtain ⟨u', h1, h2⟩ := hx j hj2
      simp only [Option.map_some, Option.some.injEq, h2, Option.getD_some] at hu
      exact hu ▸ h2
theorem info_rowsU : (Try.prog.info? 38).map (fun i => (i.zero, i.size, i.bytes)) = some (some (.slice none 0 0), 1, 24) := by kernel_rfl
end Go.Proofs.Ytkiloimggmpggaa
namespace Go.Proofs.Ytkiloimggmpggaa
open Go.RowKit Go.Proofs.YtkiloimggmpggaaW.PrintWords Go.Proofs.YtkiloimggmpggaaW.PrintLast Go.Proofs.YtkiloimggmpggaaW.PrintMore
set_option linter.unusedVariables false
set_option linter.unusedSimpArgs false
/-- Blocks that stay as they are. -/
def frD (W : World) (bo : Nat) (v : Value) : Nat → Prop := fun k => (k ≠ bo ∧ some k ≠ v.ownBlock) ∧ k < W.heap.size
/-- What is written. -/
def tD (bo : Nat) (v : Value) : Nat → Prop := fun k => k = bo ∨ some k = v.ownBlock
theorem frD_step {W W' : World} {bo : Nat} {v v' : Value} (ht : Touch W W' (tD bo v)) (hv : ∀ k, some k = v'.ownBlock → some k = v.ownBlock ∨ W.heap.size ≤ k) : ∀ k, frD W bo v k → frD W' bo v' k :=
  fun k hk => ⟨⟨hk.1.1, fun e => (hv k e).elim hk.1.2 (fun h => by have := hk.2; omega)⟩, Nat.lt_of_lt_of_le hk.2 ht.size⟩
def okD (bo ba bl : Nat) : Nat → Prop := fun k => k ≠ bo ∧ k ≠ ba ∧ k ≠ bl
theorem info_tabsD : (Try.prog.info? 22).map (fun i => (i.zero, i.size, i.bytes)) = some (some (.slice none 0 0), 1, 24) := by kernel_rfl
/-- A row appended to a cut of rows that are only read. -/
theorem app1_F {w w1 w9 : World} {ok : Nat → Prop} {A Ar : Option Addr} {cr : Nat} {rows : List (List Int)} {row : List Int} {us : List Value} {v9 : Value} (hF : Kd.F (Kd.slice 3 (Kd.int .i64)) w ok A rows.length rows) (hul : us.length = rows.length) (hus : ∀ ad, A = some ad → ∀ j u, us[j]? = some u → w.cell? (ad.add j) = some u)
    (hrow : Kd.F (Kd.int .i64) w ok Ar row.length row) (hcr : row.length ≤ cr) (hb : Below w.heap.size w w1) (how : w9.ownsRow w1.heap.size 38 1 v9 (rows.length + 1) (us ++ [.slice Ar row.length cr])) (hg : w1.grownBy w9 none) :
    ∃ A9 c9, v9 = .slice A9 (rows ++ [row]).length c9 ∧ (rows ++ [row]).length ≤ c9 ∧ Kd.F (Kd.slice 3 (Kd.int .i64)) w9 (fun k => ok k ∨ w.heap.size ≤ k) A9 (rows ++ [row]).length (rows ++ [row]) ∧ Below w1.heap.size w1 w9 := by
  have hb9 : Below w1.heap.size w1 w9 := ⟨hg.os, hg.tape, hg.output, hg.size, fun k hk => hg.block k hk (by simp)⟩
  have hbw : Below w.heap.size w w9 := hb.trans (hb9.mono hb.size)
  have hlr : (rows ++ [row]).length = rows.length + 1 := by simp
  obtain ⟨hl, hc⟩ := how
  rcases hc with ⟨_, h0⟩ | ⟨g, cap, cur, rfl, hgB, hh, hle, hmx, hsz, htk⟩
  · omega
  · rw [Nat.mul_one] at hsz htk
    have hR : RawN w9 w1.heap.size (fun k => ok k ∨ w.heap.size ≤ k) g cap (us ++ [.slice Ar row.length cr]) (rows ++ [row]) := by
      refine ⟨by simp [hul], by omega, hmx, hgB, .inr (Nat.le_trans hb.size hgB), ⟨cur, hh, hsz, by rw [hlr]; exact htk⟩, fun j x u hx hu => ?_⟩
      rcases Nat.lt_or_ge j rows.length with hj | hj
      · rw [List.getElem?_append_left hj] at hx
        rw [List.getElem?_append_left (by omega)] at hu
        obtain ⟨ad, c, hA, hcl, hFK, hcell, _⟩ := Kd.F_get hF ([] : List Int) (j : Int) (by omega) (by omega)
        have hcl1 : c.length = 1 := hcl
        obtain ⟨q, rfl⟩ := List.length_eq_one_iff.1 hcl1
        have h1 := hcell 0 q rfl
        rw [Int.toNat_natCast, show (Kd.slice 3 (Kd.int .i64)).sz = 1 from rfl, Nat.mul_one, Nat.add_zero, hus ad hA j u hu] at h1
        obtain rfl := Option.some.inj h1
        rw [Int.toNat_natCast, List.getD_eq_getElem?_getD, hx] at hFK
        exact Kd.FK_mono (Kd.FK_below (Foot.bound hFK) hbw) (fun k hk => ⟨.inl hk.1, by have := hk.2; have := hb.size; omega⟩)
      · have hje : j = rows.length := by
          have := (List.getElem?_eq_some_iff.1 hx).1
          rw [hlr] at this; omega
        subst hje
        rw [List.getElem?_append_right (Nat.le_refl _), Nat.sub_self] at hx
        rw [List.getElem?_append_right (by omega), hul, Nat.sub_self] at hu
        simp only [List.getElem?_cons_zero, Option.some.injEq] at hx hu
        subst hx hu
        exact Kd.FK_mono (Kd.FK_below (Foot.bound (Kd.FK_slice_mk hcr hrow)) hbw) (fun k hk => ⟨.inl hk.1, by have := hk.2; have := hb.size; omega⟩)
    have hN := hR.N
    exact ⟨_, cap, by rw [hlr], by omega, Kd.N_F hN, hb9⟩
end Go.Proofs.Ytkiloimggmpggaa
namespace Go.Proofs.Ytkiloimggmpggaa.L
open Go.RowKit Go.Proofs.Ytkiloimggmpggaa Go.Proofs.Ytkiloimggmpggaa.P Go.Proofs.YtkiloimggmpggaaW.PrintWords Go.Proofs.YtkiloimggmpggaaW.PrintLast Go.Proofs.YtkiloimggmpggaaW.PrintMore
set_option linter.unusedVariables false
set_option linter.unusedSimpArgs false
/-- A row added to the sums of the columns. -/
def addR (s r : List Int) (j : Nat) : List Int := (List.range j).foldl (fun s j => s.set j (wrap64 (rd s j + rd r j))) s
theorem addR_succ (s r : List Int) (j : Nat) : addR s r (j + 1) = (addR s r j).set j (wrap64 (rd (addR s r j) j + rd r j)) := by
  unfold addR
  rw [List.range_succ, List.foldl_append]
  rfl
theorem addR_length (s r : List Int) : ∀ j, (addR s r j).length = s.length
  | 0 => rfl
  | j + 1 => by rw [addR_succ, List.length_set, addR_length s r j]
theorem own_at {g j n c : Nat} (h : some j = (Value.slice (some ⟨g, 0, none⟩) n c).ownBlock) : j = g := by simpa [Value.ownBlock] using h
mutual
def wgL : Nat → List (List Int) → List Int → List (List Int) → Option (List (List (List Int)))
  | 0, _, _, _ => none
  | k + 1, rows, s, L => match L with
    | [] => some []
    | r :: rest => if r.length ≤ s.length then (wgE k (rows ++ [r]) (addR s r r.length)).bind fun a => (wgL k rows s rest).bind fun b => some (a ++ b) else none
def wgE : Nat → List (List Int) → List Int → Option (List (List (List Int)))
  | 0, _, _ => none
  | k + 1, rows, s => if rows.length ≤ 100 ∧ s.length ≤ 100 then (if rows.length = s.length then some (if (s.all fun x => inB x 1 1) = true then [rows] else []) else (spec_weRows.f k s [] 0).bind fun L => if L.length ≤ 1000 then wgL k rows s L else none) else none
end
/-- A list of tables comes back whose blocks are ok or new. -/
def RetNM (w : World) (ok : Nat → Prop) (L : List (List (List Int))) (e : Ending) (w' : World) : Prop := ∃ v : Value, e = .returned v ∧ Kd.N (Kd.slice 38 (Kd.slice 3 (Kd.int .i64))) 22 w' w.heap.size (fun k => ok k ∨ w.heap.size ≤ k) v L ∧ Below w.heap.size w w'
/-- A list of one element, in a block of its own. -/
theorem one_N {α : Type} {d : Kd α} {e e1 : Nat} {W : World} {ok okp : Nat → Prop} {x : List α} {u : Value} (hf : Kd.FK (Kd.slice e1 d) W okp x [u]) (hok : ∀ k, okp k → ok k) (hfr : ok W.heap.size) (hlt : ∀ k, okp k → k < W.heap.size) :
    Kd.N (Kd.slice e1 d) e (W.alloc (.cells #[u] e)) W.heap.size ok (.slice (some ⟨W.heap.size, 0, none⟩) 1 1) [x] := by
  have hb := below_alloc (Below.refl W.heap.size W) (.cells #[u] e)
  have hsz1 : (Kd.raw (Kd.slice e1 d).sz).sz = 1 := rfl
  refine ⟨fun k hk => ?_, [[u]], rfl, ⟨fun k hk => hk.symm, [u], ?_, ?_⟩, ?_⟩
  · have : W.heap.size = k := by simpa [Value.ownBlock] using hk
    exact this ▸ hfr
  · exact ⟨rfl, .inr ⟨W.heap.size, 1, #[u], rfl, Nat.le_refl _, blk_new W _, Nat.le_refl _, by unfold maxLen; omega, rfl, rfl⟩⟩
  · refine ⟨rfl, fun j c hj => ?_⟩
    rcases j with _ | j
    · obtain rfl := Option.some.inj hj
      exact ⟨rfl, rfl, (Kd.slice e1 d).K_one (Kd.FK_now hf)⟩
    · simp at hj
  · intro j y c hy hc
    rcases j with _ | j
    · obtain rfl := Option.some.inj hy
      obtain rfl := Option.some.inj hc
      exact Kd.FK_mono (Kd.FK_below hf hb) (fun k hk => ⟨hok k hk, fun e => by have h2 := hlt k hk; have : k = W.heap.size := by simpa [Value.ownBlock] using e
                                                                               omega⟩)
    · simp at hy
def okV (W : World) (ok : Nat → Prop) (v : Value) : Nat → Prop := fun j => ((ok j ∧ j < W.heap.size) ∨ W.heap.size ≤ j) ∧ some j ≠ v.ownBlock
def okT (W : World) (ok : Nat → Prop) : Nat → Prop := fun j => (ok j ∧ j < W.heap.size) ∨ W.heap.size ≤ j
set_option maxHeartbeats 4000000 in
set_option maxRecDepth 100000 in
theorem spec_weGoOn.callsG : ∀ (k : Nat) (rows : List (List Int)) (s : List Int) (X : List (List (List Int))) (A : Option Addr) (c : Nat) (As : Option Addr) (cs : Nat) (W : World) (ok : Nat → Prop), wgE k rows s = some X → X.length ≤ 1000000 →
    Kd.F (Kd.slice 3 (Kd.int .i64)) W ok A rows.length rows → rows.length ≤ c → Kd.C (Kd.int .i64) W As s.length s → s.length ≤ cs →
    Calls Try.prog 49 #[.slice A rows.length c, .slice As s.length cs] W (RetNM W ok X) := by
  intro k
  induction k using Nat.strongRecOn with
  | _ k ih =>
  intro rows s X A c As cs W ok hX hXl hF hc hC hcs
  cases k with
  | zero => simp [wgE] at hX
  | succ k =>
  rw [wgE] at hX
  split at hX
  case isFalse => cases hX
  rename_i hsm
  have hrl := hsm.1
  have hsl := hsm.2
  have HF := Aside0.mk (Kd.F_bound hF)
  have HC := Aside0.mk (Kd.C_F (Kd.heap_int _) hC)
  have HCN := Aside0.mk hc
  have HCS := Aside0.mk hcs
  have HB := Aside0.mk (Below.refl W.heap.size W)
  clear hF hC hsm hc hcs
  split at hX
  · rename_i he
    obtain ⟨ka, hka⟩ := (l1All_ev s 1 1 (by omega)).rounds
    have HA := Aside0.mk (fun W' (hb : Below W.heap.size W W') => spec_l1All.calls ka As cs s 1 1 _ W' (Kd.F_now (Kd.F_below HC.out hb)) HCS.out hka)
    have hez : (rows.length : Int) = (s.length : Int) := by omega
    obtain rfl := Option.some.inj hX
    clear hX hka
    cases ha : s.all fun x => inB x 1 1 with
    | false =>
      rw [ha] at HA
      rw [if_neg (by simp)]
      clear ha
      go_enter Try.func49, Try.ntmps49
      go_wp2_with (go_at_call 48; refine (HA.out _ HB.out).mono ?_; rintro e w1 ⟨rfl, hd⟩; have hb := hd.below; clear hd)
      go_ret
      exact ⟨_, rfl, Kd.N_nil _ _ _ _ _, hb⟩
    | true =>
      rw [ha] at HA
      rw [if_pos rfl]
      clear ha
      go_enter Try.func49, Try.ntmps49
      go_wp2_with (go_at_call 48; refine (HA.out _ HB.out).mono ?_; rintro e w1 ⟨rfl, hd⟩; have hb := hd.below; clear hd)
      go_ret
      refine ⟨_, rfl, ?_, below_alloc hb _⟩
      rw [← he]
      exact Kd.N_lower (one_N (okp := fun k => ok k ∧ k < W.heap.size) (Kd.FK_slice_mk HCN.out (Kd.F_below HF.out hb)) (fun k hk => .inl hk.1) (.inr hb.size) (fun k hk => by have := hk.2; have := hb.size; omega)) hb.size
  · rename_i he
    have hez : ¬ (rows.length : Int) = (s.length : Int) := by omega
    obtain ⟨L, hL, hX⟩ := Option.bind_eq_some_iff.1 hX
    split at hX
    case isFalse => cases hX
    rename_i hLl
    have HM := Aside0.mk hX
    have HR := Aside0.mk (fun W' (hb : Below W.heap.size W W') => spec_weRows.calls k As cs s (fun _ => False) none 0 [] 0 L W' (Kd.F_now (Kd.F_below HC.out hb)) HCS.out (Kd.V_nil _ _ _ _ _) hL)
    have IH := Aside0.mk ih
    clear hX hL ih
    go_enter Try.func49, Try.ntmps49
    go_wp2_with (go_at_call 64; refine (HR.out _ HB.out).mono ?_; rintro e w1 ⟨v1, rfl, hN, hb⟩; obtain ⟨Al, cl, rfl⟩ := Kd.N_slice hN; have HL := Aside0.mk (Kd.F_mono (ok' := fun j => W.heap.size ≤ j ∧ j < w1.heap.size) (Kd.F_bound (Kd.N_F hN)) (fun j hj => ⟨hj.1.elim (fun h => h.elim) id, hj.2⟩)); have HB1 := Aside0.mk hb; clear hN hb)
    have HSZ := Aside0.mk (show W.heap.size ≤ w1.heap.size from HB1.out.size)
    clear HR
    go_loopg [5, 24] k (fun kq s5 s24 wr => ∃ (i : Nat) (X2 Y : List (List (List Int))), i ≤ L.length ∧ s24 = .int .i64 i ∧ Aside0 (wgL kq rows s (L.drop i) = some Y) ∧ Aside0 (kq ≤ k) ∧ Aside0 (X2 ++ Y = X) ∧ Aside0 (Kd.N (Kd.slice 38 (Kd.slice 3 (Kd.int .i64))) 22 wr w1.heap.size (okT W ok) s5 X2) ∧ Aside0 (Below w1.heap.size w1 wr))
    case atStart => exact ⟨0, [], X, Nat.zero_le _, rfl, HM, ⟨Nat.le_refl _⟩, ⟨rfl⟩, ⟨Kd.N_nil _ _ _ _ _⟩, ⟨Below.refl _ _⟩⟩
    case round =>
      clear HM
      obtain ⟨i, X2, Y, hi, rfl, HM, HK, HX, HN, HBr⟩ := hrel
      cases gk with
      | zero => exact absurd HM.out (by simp [wgL])
      | succ k3 =>
      have H := HM.out
      by_cases hlt : i < L.length
      · have hz : (i : Int) < (L.length : Int) := by omega
        obtain ⟨r, hr⟩ : ∃ r, r = L[i] := ⟨_, rfl⟩
        rw [List.drop_eq_getElem_cons hlt, ← hr, wgL] at H
        split at H
        case isFalse => cases H
        rename_i hrs
        obtain ⟨a, ha, H⟩ := Option.bind_eq_some_iff.1 H
        obtain ⟨b2, hb2, H⟩ := Option.bind_eq_some_iff.1 H
        obtain rfl := Option.some.inj H
        obtain ⟨ad, cc, hA, hcl1, hFK, hcell, _⟩ := Kd.F_get HL.out ([] : List Int) (i : Int) (by omega) (by omega)
        subst hA
        obtain ⟨Ar, cr, rfl, hcr, hFx⟩ := Kd.FK_slice_open hFK
        have hx := hcell 0 _ rfl
        rw [Int.toNat_natCast, show (Kd.slice 3 (Kd.int .i64)).sz = 1 from rfl, Nat.mul_one, Nat.add_zero] at hx
        have hge : L.getD i [] = r := by rw [hr, List.getD_eq_getElem?_getD, List.getElem?_eq_getElem hlt]; rfl
        rw [Int.toNat_natCast, hge] at hcr hFx
        rw [hge] at hx
        replace hx := pw_cell_below HBr.out hx
        have HXF := Aside0.mk hFx
        have HCR := Aside0.mk hcr
        have HA := Aside0.mk ha
        have HB2 := Aside0.mk hb2
        obtain ⟨wo, rfl⟩ : ∃ wo : World, wo = wr := ⟨_, rfl⟩
        have HBo := Aside0.mk (HB1.out.trans (HBr.out.mono HSZ.out))
        have HOW := Aside0.mk (spec_l1Own.calls As cs s s wo (Kd.F_now (Kd.F_below HC.out HBo.out)) HCS.out (by unfold spec_l1Own.f; simp only [Option.bind_some, List.length_nil, List.nil_append]; rw [if_pos (by omega)]))
        clear HM H ha hb2 hFK hcell hcl1 hcr hFx hge hr
        go_wp2_with (go_at_call 65; refine HOW.out.mono ?_; rintro e w2 ⟨v8, rfl, hR8, hb8⟩; obtain ⟨A8, c8, rfl⟩ := Kd.R_slice hR8; have HR8 := Aside0.mk hR8; have HB8 := Aside0.mk hb8; clear hR8 hb8)
        go_loopg [32] r.length (fun gj s32 wr2 => ∃ j : Nat, j ≤ r.length ∧ r.length - j ≤ gj ∧ s32 = .int .i64 j ∧ Aside0 (Kd.R (Kd.int .i64) 3 wr2 wo.heap.size (fun _ => True) (.slice A8 s.length c8) (addR s r j)) ∧ Aside0 (Below wo.heap.size wo wr2))
        case atStart => exact ⟨0, Nat.zero_le _, Nat.le_refl _, rfl, HR8, HB8⟩
        case round =>
          clear HR8 HB8 HOW hx
          obtain ⟨j, hj, hgj, rfl, HR8, HB8⟩ := hrel
          by_cases hjt : j < r.length
          · have hjz : (j : Int) < (r.length : Int) := by omega
            have hjs : (j : Int) < (s.length : Int) := by omega
            have hcl := addR_length s r j
            obtain ⟨ad8, rfl, _⟩ := (Kd.R_reads' HR8.out).2.2.2.2 (by rw [hcl]; omega)
            obtain ⟨g8, rfl⟩ := Kd.R_head HR8.out
            have hb8 := Kd.R_base HR8.out g8 rfl
            obtain ⟨adr, e1, hy⟩ := Kd.at_int (Kd.F_now (Kd.F_below HXF.out (HBr.out.trans (HB8.out.mono HBr.out.size)))) (j : Int) (by omega) hjz
            subst e1
            obtain ⟨hc8, hf8⟩ := Kd.R_celln 0 HR8.out (j : Int) (by omega) hjs
            have hp8 := Kd.R_putn HR8.out (j : Int) (wrap64 (rd (addR s r j) j + rd r j))
            have hs8 := addR_succ s r j
            simp only [Int.toNat_natCast] at hy hc8 hf8 hp8
            rw [← hs8] at hp8
            have HP8 := Aside0.mk hp8
            have HBN := Aside0.mk (HB8.out.setCell (p := ⟨g8, j, none⟩) hb8 (.int .i64 (wrap64 (rd (addR s r j) j + rd r j))))
            have hc9 : wr.cell? ⟨g8, j, none⟩ = some (.int .i64 (rd (addR s r j) j)) := hc8
            have hf9 : wr.frozen? ⟨g8, j, none⟩ = false := hf8
            obtain ⟨cu, hcu⟩ : ∃ cu, cu = rd (addR s r j) j := ⟨_, rfl⟩
            rw [← hcu] at HP8 HBN hc9
            clear hc8 hf8 hp8 hs8 hcu hcl
            go_wp2
            go_roundg (r.length - (j + 1))
            case measure => omega
            case rel => exact ⟨j + 1, by omega, by omega, by go_num, HP8, HBN⟩
          · have hjz : ¬ (j : Int) < (r.length : Int) := by omega
            have hje : j = r.length := by omega
            subst hje
            have hlt5 := Kd.N_lt HN.out
            have hsz1 := HBr.out.size
            have hsz8 := HB8.out.size
            have HFV := Aside0.mk (show ∀ j, wr.heap.size ≤ j → okV W ok u5 j from fun j hj => ⟨.inr (by have := HSZ.out; omega), fun e => by have := hlt5 j e.symm; omega⟩)
            have HBW := Aside0.mk (show Below W.heap.size W wr from HB1.out.trans ((HBr.out.trans (HB8.out.mono hsz1)).mono HSZ.out))
            have HBV := Aside0.mk (show Below w1.heap.size w1 wr from HBr.out.trans (HB8.out.mono hsz1))
            have HE := Aside0.mk (show Kd.N (Kd.slice 3 (Kd.int .i64)) 38 (wr.alloc (.cells #[] 38)) wr.heap.size (okV W ok u5) (.slice (some ⟨wr.heap.size, 0, none⟩) 0 0) ([] : List (List Int)) from Kd.S_N (S_empty (blk_new wr _) (Nat.le_refl _) (HFV.out _ (Nat.le_refl _))))
            have HN5 := Aside0.mk (Kd.N_below (Kd.N_bound HN.out) HB8.out)
            have HRW := Aside0.mk (Kd.F_below HF.out (HBW.out.trans ((below_alloc (Below.refl wr.heap.size wr) (.cells #[] 38)).mono (by have := HSZ.out; omega))))
            have HOK := Aside0.mk (show ∀ j, (ok j ∧ j < W.heap.size) → okV W ok u5 j ∧ some j ≠ (Value.slice (some ⟨wr.heap.size, 0, none⟩) 0 0).ownBlock from fun j hj => ⟨⟨.inl hj, fun e => by have := Kd.N_base HN.out j e.symm; have := hj.2; have := HSZ.out; omega⟩, fun e => by have h1 := hj.2; have h2 := own_at e; have := HSZ.out; omega⟩)
            have HOL := Aside0.mk (show ∀ j, (W.heap.size ≤ j ∧ j < w1.heap.size) → okV W ok u5 j from fun j hj => ⟨.inr hj.1, fun e => by have := Kd.N_base HN.out j e.symm; have := hj.2; omega⟩)
            have HSL := Aside0.mk (addR_length s r r.length)
            obtain ⟨s9, hs9⟩ : ∃ z, z = addR s r r.length := ⟨_, rfl⟩
            rw [← hs9] at HSL HA HR8
            have HXA := Aside0.mk (show (X2 ++ a).length + b2.length ≤ 1000000 by have h1 := hXl; rw [← HX.out, List.length_append, List.length_append] at h1; rw [List.length_append]; omega)
            clear HN HB8 HBr hs9
            go_wp2_with (first
              | ((with_reducible refine gate_builtin (b := .append) (xs := #[.tmp 46, .tmp 47]) rfl ?_); at_builtin; refine Kd.N_append_rows (Kd.slice 3 (Kd.int .i64)) (w0 := wr) wr.heap.size rfl (.tmp 46) (.tmp 47) 22 38 (.slice none 0 0) 24 rfl Try.underlying22 info_rowsU rfl (by decide) (by omega) (.slice (some ⟨wr.heap.size, 0, none⟩) 0 0) ([] : List (List Int)) rows _ _ _ (okV W ok u5) (fun k => ok k ∧ k < W.heap.size) rfl rfl HE.out HRW.out HOK.out (fun j hj => HFV.out j (Nat.le_trans (by simp) hj)) (below_alloc (Below.refl _ _) _) (by simp) (by simp only [List.length_nil]; omega) ?_; intro v7 w7 ho7 hb7 hg7 hat7; rw [List.nil_append] at ho7; have HN7 := Aside0.mk ho7; have HB7 := Aside0.mk hb7; have HG7 := Aside0.mk (show ∀ k, v7.ownBlock = some k → wr.heap.size ≤ k from fun k e => hat7.elim (fun h => by rw [h] at e; have h2 := own_at e.symm; omega) (fun ⟨b, h, hb⟩ => by rw [h] at e; injection e with e; subst e; exact Nat.le_trans (by simp) hb)); clear ho7 hb7 hg7 hat7)
              | ((with_reducible refine gate_builtin (b := .append) (xs := #[.tmp 48, .tmp 50]) rfl ?_); at_builtin; refine Kd.N_append (Kd.slice 3 (Kd.int .i64)) (w0 := wr) wr.heap.size rfl (.tmp 48) (.tmp 50) 22 38 (.slice none 0 0) 24 rfl Try.underlying22 info_rowsU rfl (by decide) (by omega) v7 rows r [.slice Ar r.length cr] (okV W ok u5) (fun k => W.heap.size ≤ k ∧ k < w1.heap.size) rfl rfl (Kd.FK_slice_mk HCR.out (Kd.F_below HXF.out (HBV.out.trans (HB7.out.mono (Nat.le_trans hsz1 hsz8))))) (fun j hj => ⟨HOL.out j hj, fun e => by have := HG7.out j e.symm; have := hj.2; omega⟩) (fun j hj => HFV.out j (Nat.le_trans HB7.out.size hj)) HN7.out HB7.out HB7.out.size (by omega) ?_; intro v8 w8 ho8 hb8 hg8 hat8; obtain ⟨R9, hR9⟩ : ∃ z, z = rows ++ [r] := ⟨_, rfl⟩; rw [← hR9] at ho8 HA; obtain ⟨A9, c9, rfl⟩ := Kd.N_slice ho8; have HN8 := Aside0.mk ho8; have HB8 := Aside0.mk hb8; clear ho8 hb8 hg8 hat8 hR9)
              | (go_at_call 49; have hh := IH.out k3 (by have := HK.out; omega) R9 s9 a A9 c9 A8 c8 w8 (okV W ok u5) HA.out (by have := HXA.out; rw [List.length_append] at this; omega) (Kd.N_F HN8.out) (Kd.N_reads' HN8.out).2.1 (Kd.C_below (Kd.R_reads' HR8.out).2.2 HB8.out) (by have := (Kd.R_reads' HR8.out).2.1; have := HSL.out; omega); rw [HSL.out] at hh; refine hh.mono ?_; rintro e w9 ⟨v9, rfl, hN9, hb9⟩; obtain ⟨A53, c53, rfl⟩ := Kd.N_slice hN9; have HN9 := Aside0.mk hN9; have HB9 := Aside0.mk (HB8.out.trans (hb9.mono HB8.out.size)); clear hN9 hb9 hh)
              | ((with_reducible refine gate_builtin (b := .append) (xs := #[.tmp 45, .tmp 53]) rfl ?_); at_builtin; refine Kd.N_append_rows (Kd.slice 38 (Kd.slice 3 (Kd.int .i64))) (w0 := w1) w1.heap.size rfl (.tmp 45) (.tmp 53) 41 22 (.slice none 0 0) 24 rfl Try.underlying41 info_tabsD rfl (by decide) (by omega) u5 X2 a _ _ _ (okT W ok) (okV W ok u5) rfl rfl (Kd.N_mono (Kd.N_below HN5.out HB9.out) (fun k hk => hk.1)) (Kd.N_F (Kd.N_mono HN9.out (fun j hj => hj.elim id (fun h => HFV.out j (Nat.le_trans HB8.out.size h))))) (fun _ h => h) (fun j hj => .inr (by have := HB9.out.size; have := HSZ.out; omega)) (HBV.out.trans (HB9.out.mono (Nat.le_trans hsz1 hsz8))) (by have := HB9.out.size; omega) (by have := HXA.out; rw [List.length_append] at this; omega) ?_; intro v10 w10 ho10 hb10 hg10 hat10; have HN10 := Aside0.mk ho10; have HB10 := Aside0.mk hb10; clear ho10 hb10 hg10 hat10))
            go_roundg k3
            case measure => have := HK.out; omega
            case rel => exact ⟨i + 1, X2 ++ a, b2, by omega, by go_num, HB2, ⟨by have := HK.out; omega⟩, ⟨by rw [List.append_assoc]; exact HX.out⟩, HN10, HB10⟩
      · have hz : ¬ (i : Int) < (L.length : Int) := by omega
        have hie : i = L.length := by omega
        subst hie
        rw [List.drop_length, wgL] at H
        obtain rfl := Option.some.inj H
        have HX3 := Aside0.mk (show X2 = X by have := HX.out; rwa [List.append_nil] at this)
        clear H HM
        go_wp2
        go_ret
        exact ⟨_, rfl, by rw [← HX3.out]; exact Kd.N_lower (Kd.N_mono HN.out (fun k hk => hk.imp (fun h => h.1) id)) HSZ.out, HB1.out.trans (HBr.out.mono HSZ.out)⟩
end Go.Proofs.Ytkiloimggmpggaa.L
namespace Go.Proofs.Ytkiloimggmpggaa.P
end Go.Proofs.Ytkiloimggmpggaa.P
namespace Go.Proofs.Ytkiloimggmpggaa.L
end Go.Proofs.Ytkiloimggmpggaa.L

namespace Go.Proofs.Ytkiloimggmpggaa
open Go.RowKit Go.Proofs.Ytkiloimggmpggaa.P Go.Proofs.Ytkiloimggmpggaa.L Go.Proofs.YtkiloimggmpggaaW.PrintWords Go.Proofs.YtkiloimggmpggaaW.PrintLast Go.Proofs.YtkiloimggmpggaaW.PrintMore
set_option linter.unusedVariables false
set_option maxRecDepth 100000

/-- All sign matrices of side n. -/
def wgX (n : Nat) : List (List (List Int)) := (wgE 1000 [] (List.replicate n 0)).getD []
theorem wg_1 : wgE 1000 [] (List.replicate 1 0) = some (wgX 1) ∧ (wgX 1).length ≤ 1000 := by decide +kernel
theorem wg_2 : wgE 1000 [] (List.replicate 2 0) = some (wgX 2) ∧ (wgX 2).length ≤ 1000 := by decide +kernel
theorem wg_3 : wgE 1000 [] (List.replicate 3 0) = some (wgX 3) ∧ (wgX 3).length ≤ 1000 := by decide +kernel
theorem wg_4 : wgE 1000 [] (List.replicate 4 0) = some (wgX 4) ∧ (wgX 4).length ≤ 1000 := by decide +kernel
theorem wg_all {n : Nat} (h0 : 1 ≤ n) (h1 : n ≤ 4) : wgE 1000 [] (List.replicate n 0) = some (wgX n) ∧ (wgX n).length ≤ 1000 := by
 have e : n = 1 ∨ n = 2 ∨ n = 3 ∨ n = 4 := by omega
 rcases e with rfl | rfl | rfl | rfl
 ·exact wg_1
 ·exact wg_2
 ·exact wg_3
 ·exact wg_4
def spec_weAll.f (a0 : Int) : Option (List (List (List Int))) := if 1 ≤ a0 ∧ a0 ≤ 4 then some (wgX a0.toNat) else none
theorem spec_weAll.calls (a0 : Int) (r : List (List (List Int))) (w : World) (h : spec_weAll.f a0 = some r) :
  Calls Try.prog 23 #[.int .i64 a0] w fun e w' => ∃ v0_ : Value, e = .returned (v0_) ∧ Kd.N (Kd.slice 38 (Kd.slice 3 (Kd.int .i64))) 22 w' w.heap.size (fun k_ => (w.heap.size ≤ k_)) v0_ r ∧ Below w.heap.size w w' := by
 unfold spec_weAll.f at h
 split at h
 case isFalse => cases h
 rename_i hn
 obtain rfl := Option.some.inj h
 obtain ⟨m, rfl⟩ := Int.eq_ofNat_of_zero_le (show 0 ≤ a0 by omega)
 rw [Int.toNat_natCast]
 obtain ⟨h1, h2⟩ := wg_all (n := m) (by omega) (by omega)
 have hmm : m ≤ 4 := by omega
 have mk1 : ∀ W : World, Sem.run Try.prog (Instr.makeSlice 38 (.int .i64 m) (.int .i64 m)) W = Result.ok (Value.slice (some ⟨W.heap.size, 0, none⟩) m m) (W.alloc (.cells (madeCells #[.int .i64 0] m) 3)) := fun W => run_make_row' (P := Try.prog) 38 3 (.int .i64 0) 8 Try.underlying38 info_ints rfl .i64 .i64 m (by omega) (by omega) W
 have hst : intBlk (w.alloc (.cells (madeCells #[.int .i64 0] m) 3)) w.heap.size (List.replicate m 0) := by unfold intBlk; have := blk_new w (.cells (madeCells #[.int .i64 0] m) 3); rw [madeInts] at this ⊢; exact this
 have hR := intBlk_R (ok := fun _ => True) (base := w.heap.size) hst (Nat.le_refl _) trivial (by rw [List.length_replicate]; omega)
 have hcall := spec_weGoOn.callsG 1000 [] (List.replicate m 0) (wgX m) none 0 _ _ (w.alloc (.cells (madeCells #[.int .i64 0] m) 3)) (fun _ => False) h1 (by omega) (Kd.F_nil _ _ _) (Nat.le_refl _) (Kd.R_reads' hR).2.2 (Nat.le_refl _)
 rw [List.length_replicate, List.length_nil] at hcall
 have HC := Aside0.mk hcall
 clear hcall hR hst h1 h2 hn
 go_enter Try.func23, Try.ntmps23
 go_wp2_with (go_at_call 49; refine HC.out.mono ?_; rintro e w1 ⟨v, rfl, hN, hb⟩; have HN := Aside0.mk hN; have HB := Aside0.mk (below_step (below_alloc (Below.refl w.heap.size w) (.cells (madeCells #[.int .i64 0] m) 3)) hb); clear hN hb)
 go_ret
 exact ⟨_, rfl, Kd.N_lower (Kd.N_mono HN.out (fun k hk => hk.elim (fun h => h.elim) (fun h => Nat.le_trans (by simp) h))) (by simp), HB.out⟩
end Go.Proofs.Ytkiloimggmpggaa
