/- slices.DeleteFunc of rows, on a table of the call's own: the rows that are kept shift inside the outer block, what is left over is cleared. -/
import Derived.Test.YtflhhbpgkjpbdaaHA
import Derived.Test.YtflhhbpgkjpbdaaWKept
import Derived.Test.YtflhhbpgkjpbdaaWApart
import Derived.Lib.SliceRun
namespace Go.Proofs.Ytflhhbpgkjpbdaa
open Go.RowKit Go.Proofs.YtflhhbpgkjpbdaaW.PrintWords Go.Proofs.YtflhhbpgkjpbdaaW.PrintLast Go.Proofs.YtflhhbpgkjpbdaaW.PrintMore
set_option linter.unusedVariables false
set_option linter.unusedSimpArgs false

/-- A table of the call's own, with its outer block's cells in sight. -/
structure RawT (W : World) (B : Nat) (ok : Nat → Prop) (g cap : Nat) (f : Nat → Nat) (us : List Value) (l : List (List Int)) : Prop where
  len : us.length = l.length
  le : l.length ≤ cap
  max : cap ≤ maxLen
  ge : B ≤ g
  okg : ok g
  top : ∃ cur : Array Value, W.heap[g]? = some (.cells cur 43 (0, 0)) ∧ cur.size = cap ∧ cur.toList.take l.length = us
  each : ∀ (j : Nat) (x : List Int) (u : Value), l[j]? = some x → us[j]? = some u → (Kd.int .i64).R 3 W B (fun k => (ok k ∧ k ≠ g) ∧ f k = j) u x
theorem RawT.of_S {W : World} {B : Nat} {ok : Nat → Prop} {g n cap : Nat} {l : List (List Int)} (h : Kd.S (Kd.slice 3 (Kd.int .i64)) 43 W B ok (.slice (some ⟨g, 0, none⟩) n cap) l) : n = l.length ∧ ∃ f us, RawT W B ok g cap f us l := by
  obtain ⟨f, h0, inner, ho, hr⟩ := h
  rw [List.length_zipIdx] at ho
  obtain ⟨hlen, hc⟩ := ho
  rcases hc with ⟨hc, _⟩ | ⟨g', cap', cur, hv, hb, hh, hle, hmx, hsz, htk⟩
  · cases hc
  · injection hv with e1 e2 e3
    injection e1 with e1
    injection e1 with e1
    subst e1 e2 e3
    have hsz1 : (Kd.tag f (Kd.slice 3 (Kd.int .i64))).sz = 1 := rfl
    rw [hsz1, Nat.mul_one] at hlen hsz htk
    refine ⟨rfl, f, inner, ⟨hlen, hle, hmx, hb, h0 _ rfl, ⟨cur, hh, hsz, htk⟩, fun j x u hx hu => ?_⟩⟩
    have hM := hr.2 j (x, j) (Kd.zip_at hx)
    rw [hsz1, Nat.mul_one] at hM
    have he : (inner.drop j).take 1 = [u] := by
      have hj : j < inner.length := (List.getElem?_eq_some_iff.1 hu).1
      rw [List.drop_eq_getElem_cons hj, List.take_succ_cons, List.take_zero]
      rw [(List.getElem?_eq_some_iff.1 hu).2]
    rw [he] at hM
    obtain ⟨v, hv, hR⟩ := hM
    injection hv with hv
    subst hv
    refine Kd.R_mono hR (fun k hk => ⟨⟨hk.1.1, fun e => hk.1.2 (by subst e; rfl)⟩, hk.2⟩)
theorem RawT.S {W : World} {B : Nat} {ok : Nat → Prop} {g cap : Nat} {f : Nat → Nat} {us : List Value} {l : List (List Int)} (h : RawT W B ok g cap f us l) : Kd.S (Kd.slice 3 (Kd.int .i64)) 43 W B ok (.slice (some ⟨g, 0, none⟩) l.length cap) l := by
  obtain ⟨cur, hh, hsz, htk⟩ := h.top
  have hsz1 : (Kd.tag f (Kd.slice 3 (Kd.int .i64))).sz = 1 := rfl
  refine ⟨f, fun k hk => ?_, us, ?_, ?_⟩
  · have : g = k := by simpa [Value.ownBlock] using hk
    exact this ▸ h.okg
  · rw [List.length_zipIdx]
    exact ⟨by rw [hsz1, Nat.mul_one]; exact h.len, .inr ⟨g, cap, cur, rfl, h.ge, hh, h.le, h.max, by rw [hsz1, Nat.mul_one]; exact hsz, by rw [hsz1, Nat.mul_one]; exact htk⟩⟩
  · refine ⟨by rw [hsz1, Nat.mul_one, List.length_zipIdx]; exact h.len, fun j p hj => ?_⟩
    have hj2 : j < l.length := by have := (List.getElem?_eq_some_iff.1 hj).1; simpa using this
    have hp : p = (l[j], j) := by
      have := (List.getElem?_eq_some_iff.1 hj).2
      rw [← this]; simp
    subst hp
    have hju : j < us.length := by rw [h.len]; exact hj2
    rw [hsz1, Nat.mul_one, List.drop_eq_getElem_cons hju, List.take_succ_cons, List.take_zero]
    refine ⟨us[j], rfl, Kd.R_mono (h.each j l[j] us[j] (List.getElem?_eq_getElem hj2) (List.getElem?_eq_getElem hju)) (fun k hk => ⟨⟨hk.1.1, fun e => hk.1.2 (by simpa [Value.ownBlock] using e)⟩, hk.2⟩)⟩
theorem RawT.kept {W W' : World} {B : Nat} {ok : Nat → Prop} {g cap : Nat} {f : Nat → Nat} {us : List Value} {l : List (List Int)} (h : RawT W B ok g cap f us l) (hk : Kept W W' (fun k => k = g)) (j : Nat) (x : List Int) (u : Value) (hx : l[j]? = some x) (hu : us[j]? = some u) : (Kd.int .i64).R 3 W' B (fun k => (ok k ∧ k ≠ g) ∧ f k = j) u x :=
  Kd.R_kept (h.each j x u hx hu) hk (fun k hk => hk.1.2)

/-- The rows (with their places) that are kept of the first j. -/
def selZ (p : List Int → Bool) (us : List Value) (l : List (List Int)) (j : Nat) : List ((Value × List Int) × Nat) := (((us.zip l).zipIdx).take j).filter fun q => !p q.1.2
def selV (p : List Int → Bool) (us : List Value) (l : List (List Int)) (j : Nat) : List Value := (selZ p us l j).map (·.1.1)
theorem selZ_succ (p : List Int → Bool) (us : List Value) (l : List (List Int)) (j : Nat) (hj : j < l.length) (hju : j < us.length) : selZ p us l (j + 1) = selZ p us l j ++ (if p l[j] = true then [] else [((us[j], l[j]), j)]) := by
  unfold selZ
  have hz : j < (us.zip l).zipIdx.length := by simp; omega
  rw [List.take_succ_eq_append_getElem hz, List.filter_append]
  congr 1
  rw [List.getElem_zipIdx, List.getElem_zip]
  by_cases hp : p l[j] = true <;> simp [hp]
theorem selV_succ (p : List Int → Bool) (us : List Value) (l : List (List Int)) (j : Nat) (hj : j < l.length) (hju : j < us.length) : selV p us l (j + 1) = selV p us l j ++ (if p l[j] = true then [] else [us[j]]) := by
  unfold selV
  rw [selZ_succ p us l j hj hju, List.map_append]
  by_cases hp : p l[j] = true <;> simp [hp]
theorem selV_le (p : List Int → Bool) (us : List Value) (l : List (List Int)) (j : Nat) : (selV p us l j).length ≤ j := by
  unfold selV selZ
  rw [List.length_map]
  exact Nat.le_trans (List.length_filter_le _ _) (by rw [List.length_take]; exact Nat.min_le_left _ _)
theorem selV_all (p : List Int → Bool) (us : List Value) (l : List (List Int)) (hlen : us.length = l.length) (i : Nat) (hi : i ≤ l.length) (h : ∀ j (hj : j < l.length), j < i → p l[j] = false) : selV p us l i = us.take i := by
  induction i with
  | zero => simp [selV, selZ]
  | succ i ih =>
    rw [selV_succ p us l i (by omega) (by omega), ih (by omega) (fun j hj hji => h j hj (by omega)), h i (by omega) (by omega), List.take_succ_eq_append_getElem (by omega)]
    rfl
theorem selZ_rows (p : List Int → Bool) (us : List Value) (l : List (List Int)) (hlen : us.length = l.length) : (selZ p us l l.length).map (·.1.2) = l.filter fun x => !p x := by
  unfold selZ
  rw [List.take_of_length_le (by simp; omega)]
  have h1 : ((us.zip l).zipIdx.map (·.1.2)) = l := by
    apply List.ext_getElem
    · simp; omega
    · intro i h1 h2; simp
  conv => rhs; rw [← h1]
  rw [List.filter_map]
  rfl
theorem selZ_at (p : List Int → Bool) (us : List Value) (l : List (List Int)) (n j : Nat) (q : (Value × List Int) × Nat) (h : (selZ p us l n)[j]? = some q) : us[q.2]? = some q.1.1 ∧ l[q.2]? = some q.1.2 := by
  have hm : q ∈ (us.zip l).zipIdx := List.mem_of_mem_take (List.mem_filter.1 (List.mem_of_getElem? h)).1
  obtain ⟨i, hi, hq⟩ := List.getElem_of_mem hm
  rw [List.getElem_zipIdx, List.getElem_zip] at hq
  subst hq
  simp only [List.length_zipIdx, List.length_zip] at hi
  simp only [Nat.zero_add]
  exact ⟨List.getElem?_eq_getElem (by omega), List.getElem?_eq_getElem (by omega)⟩
theorem selZ_nodup (p : List Int → Bool) (us : List Value) (l : List (List Int)) (n : Nat) : ((selZ p us l n).map (·.2)).Nodup := by
  have h1 : ((us.zip l).zipIdx.map (·.2)).Nodup := by
    rw [List.zipIdx_map_snd]
    exact List.nodup_range'
  refine h1.sublist (List.Sublist.map _ ?_)
  exact List.Sublist.trans List.filter_sublist (List.take_sublist _ _)
/-- What is left, as a table of its own. -/
theorem RawT.sel {W W' : World} {B : Nat} {ok : Nat → Prop} {g cap : Nat} {f : Nat → Nat} {us : List Value} {l : List (List Int)} (h : RawT W B ok g cap f us l) (hk : Kept W W' (fun k => k = g)) (p : List Int → Bool)
    (ht : ∃ cur : Array Value, W'.heap[g]? = some (.cells cur 43 (0, 0)) ∧ cur.size = cap ∧ cur.toList.take (selV p us l l.length).length = selV p us l l.length) :
    RawT W' B ok g cap (fun k => ((selZ p us l l.length).map (·.2)).idxOf (f k)) (selV p us l l.length) (l.filter fun x => !p x) := by
  have e := selZ_rows p us l h.len
  have el : (l.filter fun x => !p x).length = (selZ p us l l.length).length := by rw [← e, List.length_map]
  refine ⟨by rw [el]; simp [selV], ?_, h.max, h.ge, h.okg, by rw [el, ← show (selV p us l l.length).length = (selZ p us l l.length).length from by simp [selV]]; exact ht, fun j x u hx hu => ?_⟩
  · rw [el]
    have := selV_le p us l l.length
    have := h.le
    simp only [selV, List.length_map] at *
    omega
  · rw [← e, List.getElem?_map] at hx
    obtain ⟨q, hq, hq2⟩ := Option.map_eq_some_iff.1 hx
    subst hq2
    have hu2 : u = q.1.1 := by
      unfold selV at hu
      rw [List.getElem?_map, hq] at hu
      exact (Option.some.inj hu).symm
    subst hu2
    obtain ⟨h1, h2⟩ := selZ_at p us l l.length j q hq
    refine Kd.R_mono (h.kept hk q.2 q.1.2 q.1.1 h2 h1) (fun k hk => ⟨hk.1, ?_⟩)
    show ((selZ p us l l.length).map (·.2)).idxOf (f k) = j
    rw [hk.2]
    have hj : j < ((selZ p us l l.length).map (·.2)).length := by rw [List.length_map]; exact (List.getElem?_eq_some_iff.1 hq).1
    have hjq : ((selZ p us l l.length).map (·.2))[j] = q.2 := by rw [List.getElem_map, (List.getElem?_eq_some_iff.1 hq).2]
    rw [← hjq]
    exact List.Nodup.idxOf_getElem (selZ_nodup p us l l.length) j hj

/-- The outer block while rows shift: s of the first j are kept and stand in front; behind them it is as it was. -/
structure Shift (W wr : World) (B g cap : Nat) (cur0 : Array Value) (sv : List Value) : Prop where
  kept : Kept W wr (fun k => k = g)
  top : ∃ cur : Array Value, wr.heap[g]? = some (.cells cur 43 (0, 0)) ∧ cur.size = cap ∧ cur.toList = sv ++ cur0.toList.drop sv.length
theorem Shift.below {W wr wr' : World} {B g cap : Nat} {cur0 : Array Value} {sv : List Value} (h : Shift W wr B g cap cur0 sv) (hb : Below wr.heap.size wr wr') : Shift W wr' B g cap cur0 sv where
  kept := h.kept.below hb
  top := by
    obtain ⟨cur, h1, h2, h3⟩ := h.top
    exact ⟨cur, blk_below h1 hb, h2, h3⟩
theorem Shift.cell {W wr : World} {B g cap : Nat} {cur0 : Array Value} {sv : List Value} (h : Shift W wr B g cap cur0 sv) (j : Nat) (u : Value) (hj : sv.length ≤ j) (hu : cur0.toList[j]? = some u) : wr.cell? ⟨g, j, none⟩ = some u := by
  obtain ⟨cur, h1, h2, h3⟩ := h.top
  rw [blk_cell h1, ← Array.getElem?_toList, h3, List.getElem?_append_right hj, List.getElem?_drop, Nat.add_sub_cancel' hj]
  exact hu
theorem Shift.free {W wr : World} {B g cap : Nat} {cur0 : Array Value} {sv : List Value} (h : Shift W wr B g cap cur0 sv) (j : Nat) : wr.frozen? ⟨g, j, none⟩ = false := by
  obtain ⟨cur, h1, h2, h3⟩ := h.top
  exact blk_frozen h1 j
theorem Shift.there {W wr : World} {B g cap : Nat} {cur0 : Array Value} {sv : List Value} (h : Shift W wr B g cap cur0 sv) (j : Nat) (hj : j < cap) : (wr.cell? ⟨g, j, none⟩).isSome = true := by
  obtain ⟨cur, h1, h2, h3⟩ := h.top
  rw [blk_cell h1, Array.getElem?_eq_getElem (by omega)]
  rfl
theorem Shift.put {W wr : World} {B g cap : Nat} {cur0 : Array Value} {sv : List Value} (h : Shift W wr B g cap cur0 sv) (u : Value) (hl : sv.length < cap) (hc : cur0.size = cap) : Shift W (wr.setCell ⟨g, sv.length, none⟩ u) B g cap cur0 (sv ++ [u]) where
  kept := h.kept.setCell (.inl rfl) u
  top := by
    obtain ⟨cur, h1, h2, h3⟩ := h.top
    refine ⟨_, blk_set h1 sv.length u, by simp [h2], ?_⟩
    rw [Array.toList_setIfInBounds, h3, List.set_append_right _ _ (Nat.le_refl _), Nat.sub_self]
    have : sv.length < cur0.toList.length := by have := Array.length_toList (xs := cur0); omega
    rw [List.drop_eq_getElem_cons this]
    simp
theorem Shift.clear {W wr : World} {B g cap n : Nat} {cur0 : Array Value} {sv : List Value} (h : Shift W wr B g cap cur0 sv) (hn : sv.length ≤ n) (hc : n ≤ cap) (z : Value) :
    Kept W (wr.setCells g sv.length (List.replicate (n - sv.length) z)) (fun k => k = g) ∧ ∃ cur : Array Value, (wr.setCells g sv.length (List.replicate (n - sv.length) z)).heap[g]? = some (.cells cur 43 (0, 0)) ∧ cur.size = cap ∧ cur.toList.take sv.length = sv := by
  obtain ⟨cur, h1, h2, h3⟩ := h.top
  obtain ⟨cur', k1, k2, k3⟩ := setCells_row (List.replicate (n - sv.length) z) sv.length wr cur h1 (by rw [List.length_replicate]; omega)
  refine ⟨⟨?_, fun i hi hne => ?_⟩, cur', k1, by omega, ?_⟩
  · rw [(setCells_same g _ _ wr).2.2.2]; exact h.kept.1
  · rw [setCells_far _ _ i hne]; exact h.kept.2 i hi hne
  · rw [k3, h3, List.append_assoc]
    rw [List.take_append_of_le_length (by simp)]
    simp
theorem below_clear {W0 W : World} {B g : Nat} (hb : Below B W0 W) (hg : B ≤ g) (o : Nat) (vs : List Value) : Below B W0 (W.setCells g o vs) := by
  obtain ⟨h1, h2, h3, h4⟩ := setCells_same g vs o W
  exact ⟨h1.trans hb.os, h2.trans hb.tape, h3.trans hb.output, by rw [h4]; exact hb.size, fun k hk => (setCells_far vs o k (by omega)).trans (hb.block k hk)⟩
theorem cur_get {cur : Array Value} {us : List Value} {n j : Nat} {u : Value} (ht : cur.toList.take n = us) (hj : us[j]? = some u) : cur.toList[j]? = some u := by
  rw [← ht] at hj
  have h1 : j < (cur.toList.take n).length := (List.getElem?_eq_some_iff.1 hj).1
  rw [List.length_take] at h1
  rw [List.getElem?_take_of_lt (by omega)] at hj
  exact hj

def RetD (w : World) (B : Nat) (ok : Nat → Prop) (T : List (List Int)) (e : Ending) (w' : World) : Prop := ∃ v0_ : Value, e = .returned (v0_) ∧ Kd.S (Kd.slice 3 (Kd.int .i64)) 43 w' B ok v0_ T ∧ Below B w w'
theorem RetD.mk {w w' : World} {B : Nat} {ok : Nat → Prop} {T : List (List Int)} {v : Value} (h : Kd.S (Kd.slice 3 (Kd.int .i64)) 43 w' B ok v T) (hb : Below B w w') : RetD w B ok T (.returned v) w' := ⟨v, rfl, h, hb⟩
theorem idxFrom_range {α : Type} (p : α → Bool) (l : List α) : ∀ m : Nat, (idxFrom p m l = -1 ∧ ∀ j (hj : j < l.length), p l[j] = false) ∨ ∃ (i : Nat) (hi : i < l.length), idxFrom p m l = ((m + i : Nat) : Int) ∧ p l[i] = true ∧ ∀ j (hj : j < l.length), j < i → p l[j] = false := by
  induction l with
  | nil => intro m; exact .inl ⟨rfl, fun j hj => absurd hj (Nat.not_lt_zero _)⟩
  | cons x r ih =>
    intro m
    rw [idxFrom]
    cases hx : p x with
    | true => exact .inr ⟨0, by simp, by simp, by simpa using hx, fun j _ h => absurd h (Nat.not_lt_zero _)⟩
    | false =>
      rw [if_neg (by simp)]
      rcases ih (m + 1) with ⟨h1, h2⟩ | ⟨i, hi, h1, h2, h3⟩
      · refine .inl ⟨h1, fun j hj => ?_⟩
        cases j with
        | zero => simpa using hx
        | succ j => simpa using h2 j (by simpa using hj)
      · refine .inr ⟨i + 1, by simpa using hi, by rw [h1]; omega, by simpa using h2, fun j hj hji => ?_⟩
        cases j with
        | zero => simpa using hx
        | succ j => simpa using h3 j (by simpa using hj) (by omega)
set_option maxHeartbeats 4000000 in
set_option maxRecDepth 100000 in
theorem slices_DeleteFunc_rows.calls (gf : Nat) (lb : Array Value) (p : List Int → Bool) (B : Nat) (ok : Nat → Prop) (A : Option Addr) (cap : Nat) (l : List (List Int)) (w : World) (hBw : B ≤ w.heap.size) (hln : l.length ≤ 1000000)
    (eg : ∀ args w, (callFunc gf args).run Try.prog w = .ok (.enter gf args) w)
    (hp : ∀ (x : List Int) (A : Option Addr) (c : Nat) (W : World), x ∈ l → Below B w W → Kd.C (Kd.int .i64) W A x.length x → x.length ≤ c → Gives Try.prog gf (#[.slice A x.length c] ++ lb) W (.bool (p x)))
    (hS : Kd.S (Kd.slice 3 (Kd.int .i64)) 43 w B ok (.slice A l.length cap) l) :
    Calls Try.prog 62 #[.slice A l.length cap, .func (.func gf) #[] lb] w (RetD w B ok (l.filter fun x => !p x)) := by
  have hcon := slices_IndexFunc_rows.calls gf lb p A cap l w eg (fun x A c W hx hb => hp x A c W hx (hb.mono hBw)) (Kd.R_reads' (Kd.S_R hS)).2.2 (Kd.R_reads' (Kd.S_R hS)).2.1
  unfold idxOf at hcon
  rcases idxFrom_range p l 0 with ⟨h1, h2⟩ | ⟨i0, hi0, h1, h2, h3⟩
  · rw [h1] at hcon
    have he : (l.filter fun x => !p x) = l := List.filter_eq_self.2 fun x hx => by
      obtain ⟨j, hj, rfl⟩ := List.getElem_of_mem hx
      rw [h2 j hj]; rfl
    rw [he]
    have HS := Aside0.mk hS
    clear hS hp h2 he h1
    go_enter Try.func62, Try.ntmps62
    go_wp2_with (go_at_call 108; refine hcon.mono ?_; rintro e w' ⟨rfl, hb⟩; have HB := Aside0.mk hb; clear hb)
    go_ret
    exact RetD.mk (Kd.S_below HS.out HB.out) (HB.out.mono hBw)
  · rw [h1, Nat.zero_add] at hcon
    obtain ⟨g, rfl, hgB⟩ : ∃ g, A = some ⟨g, 0, none⟩ ∧ B ≤ g := by
      obtain ⟨g, _, e1, hgB, _⟩ := Kd.R_form (Kd.S_R hS) (by omega)
      injection e1 with e1 e2 e3
      exact ⟨g, e1, hgB⟩
    obtain ⟨_, f, us, hraw⟩ := RawT.of_S hS
    obtain ⟨cur0, hh, hsz, htk⟩ := hraw.top
    have hlen := hraw.len
    have hcapl := hraw.le
    have hmx := hraw.max
    have hsel0 := selV_all p us l hlen i0 (by omega) (fun j hj hji => h3 j hj hji)
    have hsel1 : selV p us l (i0 + 1) = us.take i0 := by rw [selV_succ p us l i0 hi0 (by omega), if_pos h2, hsel0, List.append_nil]
    have hsh0 : ∀ W, Below w.heap.size w W → Shift w W B g cap cur0 (selV p us l (i0 + 1)) := fun W hb => ⟨Kept.of_below hb _, cur0, blk_below hh hb, hsz, by
      rw [hsel1, ← htk, List.take_take, List.length_take, Nat.min_eq_left (by omega)]
      have : i0 ≤ cur0.toList.length := by have := Array.length_toList (xs := cur0); omega
      rw [Nat.min_eq_left this, List.take_append_drop]⟩
    have hl0 : (selV p us l (i0 + 1)).length = i0 := by rw [hsel1, List.length_take]; omega
    have HRAW := Aside0.mk hraw
    have HSH0 := Aside0.mk hsh0
    have HP := Aside0.mk hp
    have HTK := Aside0.mk htk
    have HSZ := Aside0.mk hsz
    have HG := Aside0.mk hgB
    have HL0 := Aside0.mk hl0
    clear hS hp hraw hh htk hsh0 hsel0 hsel1 h3 h1 h2 hsz hgB hl0
    go_enter Try.func62, Try.ntmps62
    have hne : ((i0 : Int) == -1) = false := by rw [beq_eq_false_iff_ne]; omega
    go_wp2_with (go_at_call 108; refine hcon.mono ?_; rintro e w1 ⟨rfl, hb⟩; have HB := Aside0.mk (hb.mono hBw); have HSH := Aside0.mk (HSH0.out _ hb); clear hb)
    go_loopg [5, 6, 7] l.length (fun gg s5 s6 s7 wr => ∃ j : Nat, j ≤ l.length ∧ l.length - j ≤ gg ∧ s6 = .int .i64 j ∧ s5 = .int .i64 ((selV p us l j).length : Nat) ∧ (selV p us l j).length < l.length ∧ (selV p us l j).length < j ∧ Aside0 (Below B w wr) ∧ Aside0 (Shift w wr B g cap cur0 (selV p us l j)))
    case atStart => exact ⟨i0 + 1, by omega, by omega, by go_num, by rw [HL0.out], by rw [HL0.out]; omega, by rw [HL0.out]; omega, HB, HSH⟩
    case round =>
      clear HB HSH HSH0 HL0 hcon hne
      obtain ⟨j, hj, hg, rfl, rfl, hsl, hsj, HB, HSH⟩ := hrel
      by_cases hlt : j < l.length
      · have hz : (j : Int) < (l.length : Int) := by omega
        have hju : j < us.length := by omega
        have hsc := selV_succ p us l j hlt hju
        have hux : us[j]? = some us[j] := List.getElem?_eq_getElem hju
        have hlx : l[j]? = some l[j] := List.getElem?_eq_getElem hlt
        have hcu := cur_get HTK.out hux
        have hR := HRAW.out.kept HSH.out.kept j _ _ hlx hux
        have hmem : l[j] ∈ l := List.getElem_mem hlt
        obtain ⟨Ar, cr, hus⟩ := Kd.R_slice hR
        rw [hus] at hR hcu hsc
        obtain ⟨_, hcr, hC⟩ := Kd.R_reads' hR
        have hx := HSH.out.cell j _ (by omega) hcu
        have hcall := HP.out l[j] Ar cr wr hmem HB.out hC hcr
        generalize hy : l[j] = y at hx hcall hsc hcu
        obtain ⟨sv, hsv⟩ : ∃ s, s = selV p us l j := ⟨_, rfl⟩
        rw [← hsv] at hsl hsj HSH hsc ⊢
        have HSV := Aside0.mk hsv
        clear hR hC hy hsv hus hux hlx hmem hcr
        cases hq : p y with
        | true =>
          rw [hq] at hcall
          rw [hq, if_pos rfl, List.append_nil] at hsc
          have HSC := Aside0.mk hsc
          clear hq hsc
          go_wp2_with (go_at_fn gf; refine (hcall).mono ?_; rintro e w1 ⟨rfl, hb⟩; have n0_ := Aside0.mk (below_then HB.out (Nat.le_trans hBw HB.out.size) hb); have n1_ := Aside0.mk (HSH.out.below hb); clear HB HSH hb; have HB := n0_; have HSH := n1_; clear n0_ n1_)
          go_roundg (l.length - (j + 1))
          case measure => omega
          case rel => exact ⟨j + 1, by omega, by omega, by go_num, by rw [HSC.out], by rw [HSC.out]; exact hsl, by rw [HSC.out]; omega, HB, ⟨by rw [HSC.out]; exact HSH.out⟩⟩
        | false =>
          rw [hq] at hcall
          rw [hq, if_neg (by simp)] at hsc
          have HSC := Aside0.mk hsc
          have hx2 : ∀ W, Shift w W B g cap cur0 sv → ∃ u, W.cell? ⟨g, sv.length, none⟩ = some u := fun W h => Option.isSome_iff_exists.1 (h.there sv.length (by omega))
          clear hq hsc
          obtain ⟨n5, hn5⟩ : ∃ n, n = sv.length := ⟨_, rfl⟩
          rw [← hn5] at hsl hsj hx2 ⊢
          have HN5 := Aside0.mk hn5
          clear hn5
          go_wp2_with (go_at_fn gf; refine (hcall).mono ?_; rintro e w1 ⟨rfl, hb⟩; have n0_ := Aside0.mk (below_then HB.out (Nat.le_trans hBw HB.out.size) hb); have n1_ := Aside0.mk (HSH.out.below hb); clear HB HSH hb; have HB := n0_; have HSH := n1_; clear n0_ n1_; obtain ⟨u0, hu0⟩ := hx2 _ HSH.out; have hfz := HSH.out.free n5)
          have HSH2 := Aside0.mk (show Shift w _ B g cap cur0 (selV p us l (j + 1)) by rw [HSC.out]; have := HSH.out.put (Value.slice Ar y.length cr) (by rw [← HN5.out]; omega) HSZ.out; rw [← HN5.out] at this; exact this)
          have HB2 := Aside0.mk (HB.out.setCell (p := ⟨g, n5, none⟩) HG.out (.slice Ar y.length cr))
          go_roundg (l.length - (j + 1))
          case measure => omega
          case rel => exact ⟨j + 1, by omega, by omega, by go_num, by rw [HSC.out, List.length_append, ← HN5.out]; go_num, by rw [HSC.out, List.length_append, ← HN5.out]; simp; omega, by rw [HSC.out, List.length_append, ← HN5.out]; simp; omega, HB2, HSH2⟩
      · have hz : ¬ (j : Int) < (l.length : Int) := by omega
        obtain rfl : j = l.length := by omega
        have hcl := Go.Lib.run_clear_slice (P := Try.prog) wr 22 43 0 (.slice none 0 0) Try.underlying22 (fun _ => rfl) rfl rfl g (selV p us l l.length).length (l.length - (selV p us l l.length).length) (cap - (selV p us l l.length).length) (by omega) (fun k hk => HSH.out.there _ (by omega)) (fun k hk => HSH.out.free _)
        obtain ⟨HK, hcr⟩ := HSH.out.clear (n := l.length) (by omega) hcapl (.slice none 0 0)
        have HF := Aside0.mk (RawT.S (HRAW.out.sel HK p hcr))
        have HLE := Aside0.mk (show (l.filter fun x => !p x).length = (selV p us l l.length).length by rw [← selZ_rows p us l hlen, List.length_map]; simp [selV])
        have HB2 := Aside0.mk (below_clear HB.out HG.out (selV p us l l.length).length (List.replicate (l.length - (selV p us l l.length).length) (Value.slice none 0 0)))
        obtain ⟨n5, hn5⟩ : ∃ n, n = (selV p us l l.length).length := ⟨_, rfl⟩
        rw [← hn5] at hsl hsj hcl HF HLE HB2 ⊢
        clear hn5 HK hcr HSH HB
        go_wp2
        go_ret
        have hf := HF.out
        rw [HLE.out] at hf
        exact RetD.mk hf HB2.out
end Go.Proofs.Ytflhhbpgkjpbdaa
