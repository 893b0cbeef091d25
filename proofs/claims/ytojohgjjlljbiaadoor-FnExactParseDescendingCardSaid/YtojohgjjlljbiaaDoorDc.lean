/- ParseDescending of both sides: one result. -/
import Derived.Test.YtojohgjjlljbiaaDoorDa
import Derived.Test.YtojohgjjlljbiaaDoorDb
namespace Go.Proofs.YtojohgjjlljbiaaDoor.L
open Go.RowKit Go.Proofs.YtojohgjjlljbiaaDoor Go.Proofs.YtojohgjjlljbiaaDoor.P Go.Proofs.YtojohgjjlljbiaaDoorW.PrintWords Go.Proofs.YtojohgjjlljbiaaDoorW.PrintLast Go.Proofs.YtojohgjjlljbiaaDoorW.PrintMore
set_option linter.unusedVariables false
set_option linter.unusedSimpArgs false

/-- The table of a text. -/
def pdR (s : ByteArray) : List (List Int) := if s.toList = ([45] : List UInt8) then [] else if isDesc 6 ((cutS s).map pdRow) = true then (cutS s).map pdRow else []
def pdB (s : ByteArray) : Bool := if s.toList = ([45] : List UInt8) then true else isDesc 6 ((cutS s).map pdRow)
theorem pd_dig (L : List ByteArray) : isDesc 6 (L.map pdRow) = isDesc 6 (L.map sRow) ∧ (isDesc 6 (L.map pdRow) = true → L.map pdRow = L.map sRow) :=
  both_desc L (fun b => (b.toNat : Int) - 48) dig (fun b h1 h2 => by
    unfold dig
    rw [if_neg (by omega), if_neg (by omega)]) (fun b h1 h2 => by
    unfold dig at h1 h2 ⊢
    by_cases c1 : b.toNat < 48
    · rw [if_pos c1] at h1; omega
    · rw [if_neg c1] at h1 h2 ⊢
      by_cases c2 : 57 < b.toNat
      · rw [if_pos c2] at h1; omega
      · rw [if_neg c2])
theorem pd_long (s : ByteArray) (h : 30 < s.size) : isDesc 6 ((cutS s).map pdRow) = false := by
  cases hd : isDesc 6 ((cutS s).map pdRow) with
  | false => rfl
  | true =>
    have h1 := isDesc_sizes _ hd
    have h2 := cutS_sizes s.size s (Nat.le_refl _)
    have e : (((cutS s).map pdRow).map fun r => r.length + 1) = (cutS s).map fun w => w.size + 1 := by
      rw [List.map_map]
      apply List.map_congr_left
      intro w _
      simp [pdRow]
    rw [e] at h1
    unfold sizes at h2
    omega
theorem cut_few (s : ByteArray) (h : s.size ≤ 1048576) : (cutS s).length ≤ 1048577 ∧ ∀ w ∈ cutS s, w.size ≤ 1048576 := by
  have h2 := cutS_sizes s.size s (Nat.le_refl _)
  have h3 := sizes_len (cutS s)
  exact ⟨by omega, fun w hw => by have := sizes_mem hw; omega⟩
theorem rows_ok {L : List ByteArray} (f : UInt8 → Int) (h1 : L.length ≤ 1048577) (h2 : ∀ w ∈ L, w.size ≤ 1048576) : rowsOk (L.map fun w => w.data.toList.map f) := by
  refine ⟨by rw [List.length_map]; omega, fun r hr => ?_⟩
  obtain ⟨w, hw, rfl⟩ := List.mem_map.1 hr
  have := h2 w hw
  rw [List.length_map, Array.length_toList, show w.data.size = w.size from rfl]
  omega
theorem spec_pd (s : ByteArray) (hs : s.size ≤ 1048576) : Ev (fun k => spec_ParseDescending.f k s) (pdR s, pdB s) := by
  unfold spec_ParseDescending.f pdR pdB
  by_cases h0 : s.toList = ([45] : List UInt8)
  · rw [if_pos h0, if_pos h0]
    exact Ev.ite_pos h0 (Ev.now _)
  · rw [if_neg h0, if_neg h0]
    refine Ev.ite_neg h0 ?_
    by_cases h1 : (s.size : Int) > 30
    · rw [pd_long s (by omega)]
      exact Ev.ite_pos h1 (Ev.now _)
    · obtain ⟨c1, c2⟩ := cut_few s hs
      obtain ⟨p1, p2⟩ := pd_dig (cutS s)
      have c3 : (cutS s).length ≤ 1048576 := by
        have h2 := cutS_sizes s.size s (Nat.le_refl _)
        have h3 := sizes_len (cutS s)
        omega
      refine Ev.ite_neg h1 (Ev.bind (l1Split_ev s hs) ?_)
      have hg := spec_isDesc_ev 6 ((cutS s).map sRow) (rows_ok dig c1 c2) (by decide)
      have hl := rows_l0 (cutS s) c3 c2 (r := (if isDesc 6 ((cutS s).map pdRow) = true then (cutS s).map pdRow else [], isDesc 6 ((cutS s).map pdRow))) ?_ (cutS s).length 0 (by omega) (by omega)
      · rw [List.take_zero] at hl
        exact hl
      · refine Ev.bind hg ?_
        rw [← p1]
        cases hd : isDesc 6 ((cutS s).map pdRow) with
        | true => rw [← p2 hd]; exact Ev.ite_pos rfl (Ev.now _)
        | false => exact Ev.ite_neg (by simp) (Ev.now _)
theorem pdR_small (s : ByteArray) : (pdR s).length ≤ 6 ∧ ∀ r ∈ pdR s, r.length ≤ 6 := by
  unfold pdR
  by_cases h0 : s.toList = ([45] : List UInt8)
  · rw [if_pos h0]; exact ⟨by simp, fun r hr => by cases hr⟩
  · rw [if_neg h0]
    by_cases hd : isDesc 6 ((cutS s).map pdRow) = true
    · rw [if_pos hd]
      have := isDesc_short 6 _ (by decide) hd
      exact ⟨by omega, fun r hr => by have := (rowGood_facts (isDesc_rows hd r hr)).2.1; omega⟩
    · rw [if_neg hd]; exact ⟨by simp, fun r hr => by cases hr⟩
set_option maxHeartbeats 4000000 in
set_option maxRecDepth 100000 in
theorem impl_dash (s : ByteArray) (hs : (s.toList == ([45] : List UInt8)) = true) (w : World) :
    Calls Tryd.prog 5 #[.string s] w fun e w' => ∃ v : Value, e = .returned (.tuple #[v, .bool true]) ∧ Kd.S (Kd.slice 3 (Kd.int .i64)) 30 w' w.heap.size (fun _ => True) v [] ∧ Below w.heap.size w w' := by
  obtain ⟨w1, hw1⟩ : ∃ w1, w1 = w.alloc (.cells #[] 30) := ⟨_, rfl⟩
  have HB1 := Aside0.mk (show Below w.heap.size w w1 by rw [hw1]; exact below_alloc (Below.refl _ _) _)
  have HBL := Aside0.mk (show w1.heap[w.heap.size]? = some (.cells #[] 30 (0, 0)) by rw [hw1]; exact blk_new w _)
  have HW := Aside0.mk hw1
  clear hw1
  go_enter Tryd.func5, Tryd.ntmps5
  go_wp2
  go_ret2
  rw [← HW.out]
  exact ⟨_, rfl, S_empty HBL.out (Nat.le_refl _) trivial, HB1.out⟩
/-- What the program's ParseDescending does. -/
theorem impl_pd (s : ByteArray) (hs : s.size ≤ 1048576) (w : World) (hm : HasMax w) :
    Calls Tryd.prog 5 #[.string s] w fun e w' => ∃ v : Value, e = .returned (.tuple #[v, .bool (pdB s)]) ∧ Kd.S (Kd.slice 3 (Kd.int .i64)) 30 w' w.heap.size (fun _ => True) v (pdR s) ∧ Below w.heap.size w w' := by
  unfold pdR pdB
  by_cases h0 : s.toList = ([45] : List UInt8)
  · rw [if_pos h0, if_pos h0]
    exact impl_dash s (beq_iff_eq.2 h0) w
  · rw [if_neg h0, if_neg h0]
    obtain ⟨c1, c2⟩ := cut_few s hs
    obtain ⟨k, hk⟩ := (impl_isDesc_ev 6 ((cutS s).map pdRow) (rows_ok (fun b => (b.toNat : Int) - 48) c1 c2)).rounds
    exact impl_ParseDescending.callsG s (cutS s) _ k (beq_eq_false_iff_ne.2 h0) (by unfold strings_Split.f; rw [if_pos ⟨hs, by decide⟩]; rfl) c1 c2 hk w hm
end Go.Proofs.YtojohgjjlljbiaaDoor.L
