import Derived.Test.YtojohgjjlljbiaaDoorHr
import Derived.Test.YtojohgjjlljbiaaDoorLs
import Derived.Test.YtojohgjjlljbiaaDoorPx15
import Derived.Test.YtojohgjjlljbiaaDoorPx8
namespace Go.Proofs.YtojohgjjlljbiaaDoor.L
open Go.RowKit Go.Proofs.YtojohgjjlljbiaaDoor Go.Proofs.YtojohgjjlljbiaaDoor.P Go.Proofs.YtojohgjjlljbiaaDoorW.PrintWords Go.Proofs.YtojohgjjlljbiaaDoorW.PrintLast Go.Proofs.YtojohgjjlljbiaaDoorW.PrintMore
set_option linter.unusedVariables false

/-- A row numbered from n on. -/
def numR (len : Nat) (n : Nat) : List Int := (List.range len).map fun i => ((n + i : Nat) : Int)
theorem numR_length (len n : Nat) : (numR len n).length = len := by simp [numR]
theorem numR_at (len n i : Nat) (h : i < len) : rd (numR len n) (i : Int) = ((n + i : Nat) : Int) := by rw [rd_at _ _ (by rw [numR_length]; exact h)]; simp [numR]
/-- A row of which the first i are numbered. -/
def numS (l : List Int) (n i : Nat) : List Int := numR i n ++ l.drop i
theorem numS_length (l : List Int) (n i : Nat) (h : i ≤ l.length) : (numS l n i).length = l.length := by simp [numS, numR_length]; omega
theorem numS_set (l : List Int) (n i : Nat) (h : i < l.length) : (numS l n i).set i ((n + i : Nat) : Int) = numS l n (i + 1) := by
  unfold numS
  rw [List.set_append, if_neg (by rw [numR_length]; omega), numR_length, Nat.sub_self, List.drop_eq_getElem_cons h, List.set_cons_zero]
  simp [numR, List.range_succ]
theorem markIntS_l0 (l : List Int) (n : Nat) (hn : n + l.length ≤ 4611686018427387904) : ∀ (d i : Nat), i + d = l.length → Ev (fun k => laws_markIntS.l0 k (numS l n i) ((n + i : Nat) : Int) i) (((n + l.length : Nat) : Int), numR l.length n) := by
  intro d
  induction d with
  | zero =>
    intro i hi
    refine Ev.step (fun k => by rw [laws_markIntS.l0]) ?_
    rw [numS_length l n i (by omega)]
    have e : i = l.length := by omega
    subst e
    refine Ev.ite_neg (by omega) ?_
    unfold numS
    rw [List.drop_length, List.append_nil]
    exact Ev.now _
  | succ d ih =>
    intro i hi
    refine Ev.step (fun k => by rw [laws_markIntS.l0]) ?_
    rw [numS_length l n i (by omega), Int.toNat_natCast, numS_set l n i (by omega), wrapS (n + i) (by omega), wrapS i (by omega)]
    exact Ev.ite_pos (by omega) (Ev.ite_pos (by omega) (ih (i + 1) (by omega)))
theorem markIntS_ev (l : List Int) (n : Nat) (hn : n + l.length ≤ 4611686018427387904) : Ev (fun k => laws_markIntS.f k l n) (((n + l.length : Nat) : Int), numR l.length n) := by
  have := markIntS_l0 l n hn l.length 0 (by omega)
  simpa [numS, numR, laws_markIntS.f] using this
/-- The number with which row i begins. -/
def nTo (T : List (List Int)) (n : Nat) : Nat → Nat
  | 0 => n
  | i + 1 => nTo T n i + (T.getD i []).length
theorem nTo_mono (T : List (List Int)) (n : Nat) : ∀ (d i : Nat), nTo T n i ≤ nTo T n (i + d)
  | 0, i => Nat.le_refl _
  | d + 1, i => Nat.le_trans (nTo_mono T n d i) (by show _ ≤ nTo T n (i + d) + _; omega)
/-- The table numbered, and numbered up to row i. -/
def markS (T : List (List Int)) (n i : Nat) : List (List Int) := (List.range T.length).map fun k => if k < i then numR (T.getD k []).length (nTo T n k) else T.getD k []
def markT (T : List (List Int)) (n : Nat) : List (List Int) := markS T n T.length
theorem markS_length (T : List (List Int)) (n i : Nat) : (markS T n i).length = T.length := by simp [markS]
theorem markS_zero (T : List (List Int)) (n : Nat) : markS T n 0 = T := by
  apply List.ext_getElem
  · exact markS_length _ _ _
  · intro k h1 h2
    simp [markS, List.getD_eq_getElem?_getD, h2]
theorem markS_get (T : List (List Int)) (n i k : Nat) (h : k < T.length) : (markS T n i).getD k [] = if k < i then numR (T.getD k []).length (nTo T n k) else T.getD k [] := by
  unfold markS
  simp [List.getD_eq_getElem?_getD, h]
theorem markS_set (T : List (List Int)) (n i : Nat) (h : i < T.length) : (markS T n i).set i (numR (T.getD i []).length (nTo T n i)) = markS T n (i + 1) := by
  apply List.ext_getElem
  · rw [List.length_set, markS_length, markS_length]
  · intro k h1 h2
    rw [markS_length] at h2
    rw [List.getElem_set]
    simp only [markS, List.getElem_map, List.getElem_range]
    by_cases e : i = k
    · subst e
      rw [if_pos rfl, if_pos (by omega)]
    · rw [if_neg e]
      by_cases h3 : k < i
      · rw [if_pos h3, if_pos (by omega)]
      · rw [if_neg h3, if_neg (by omega)]
theorem heldIntS_l0 (len n : Nat) (hn : n + len ≤ 4611686018427387904) : ∀ (d i : Nat), i + d = len → Ev (fun k => laws_heldIntS.l0 k (numR len n) ((n + i : Nat) : Int) i) ((n + len : Nat) : Int) := by
  intro d
  induction d with
  | zero =>
    intro i hi
    refine Ev.step (fun k => by rw [laws_heldIntS.l0]) ?_
    rw [numR_length]
    have e : i = len := by omega
    subst e
    exact Ev.ite_neg (by omega) (Ev.now _)
  | succ d ih =>
    intro i hi
    refine Ev.step (fun k => by rw [laws_heldIntS.l0]) ?_
    rw [numR_length, numR_at len n i (by omega), wrapS (n + i) (by omega), wrapS i (by omega)]
    exact Ev.ite_pos (by omega) (Ev.ite_pos (by omega) (Ev.ite_pos rfl (ih (i + 1) (by omega))))
theorem heldIntS_ev (len n : Nat) (hn : n + len ≤ 4611686018427387904) : Ev (fun k => laws_heldIntS.f k (numR len n) n) ((n + len : Nat) : Int) := heldIntS_l0 len n hn len 0 (by omega)
theorem heldIntSS_l0 (T : List (List Int)) (n : Nat) (hl : T.length ≤ 4611686018427387904) (hn : nTo T n T.length ≤ 4611686018427387904) : ∀ (d i : Nat), i + d = T.length → Ev (fun k => laws_heldIntSS.l0 k (markT T n) (nTo T n i) i) ((nTo T n T.length : Nat) : Int) := by
  intro d
  induction d with
  | zero =>
    intro i hi
    refine Ev.step (fun k => by rw [laws_heldIntSS.l0]) ?_
    rw [show (markT T n).length = T.length from markS_length _ _ _]
    have e : i = T.length := by omega
    subst e
    exact Ev.ite_neg (by omega) (Ev.now _)
  | succ d ih =>
    intro i hi
    refine Ev.step (fun k => by rw [laws_heldIntSS.l0]) ?_
    have h1 := nTo_mono T n (T.length - (i + 1)) (i + 1)
    rw [show i + 1 + (T.length - (i + 1)) = T.length by omega] at h1
    rw [show (markT T n).length = T.length from markS_length _ _ _, rd1_get, show (markT T n).getD i [] = numR (T.getD i []).length (nTo T n i) by rw [markT, markS_get T n _ i (by omega), if_pos (by omega)]]
    refine Ev.ite_pos (by omega) (Ev.ite_pos (by omega) (Ev.bind (heldIntS_ev _ _ (by have : nTo T n (i + 1) = nTo T n i + (T.getD i []).length := rfl; omega)) (Ev.ite_neg (by omega) ?_)))
    rw [wrapS i (by omega)]
    exact ih (i + 1) (by omega)
theorem heldIntSS_ev (T : List (List Int)) (n : Nat) (hl : T.length ≤ 4611686018427387904) (hn : nTo T n T.length ≤ 4611686018427387904) : Ev (fun k => laws_heldIntSS.f k (markT T n) n) ((nTo T n T.length : Nat) : Int) := heldIntSS_l0 T n hl hn T.length 0 (by omega)

set_option maxHeartbeats 4000000 in
set_option maxRecDepth 100000 in
theorem markIntSS_calls (P : Nat → Prop) (v : Value) (T : List (List Int)) (n : Nat) (w0 w : World) (hB : Below w0.heap.size w0 w) (hS : Kd.S (Kd.slice 3 (Kd.int .i64)) 30 w w0.heap.size P v T) (hn : nTo T n T.length ≤ 4611686018427387904) :
    Calls Tryd.prog 7 #[v, .int .i64 n] w fun e w' => e = .returned (.int .i64 (nTo T n T.length : Nat)) ∧ Kd.S (Kd.slice 3 (Kd.int .i64)) 30 w' w0.heap.size P v (markT T n) ∧ Below w0.heap.size w0 w' ∧ Kept w w' P := by
  obtain ⟨A, c, rfl⟩ := Kd.R_slice (Kd.S_R hS)
  have hln := (Kd.R_reads' (Kd.S_R hS)).2.2.2.1
  have HS := Aside0.mk (show Kd.S (Kd.slice 3 (Kd.int .i64)) 30 w w0.heap.size P (.slice A T.length c) (markS T n 0) by rw [markS_zero]; exact hS)
  have HB := Aside0.mk hB
  have HN := Aside0.mk hn
  have HK := Aside0.mk (Kept.refl w P)
  clear hS hB hn
  go_enter Tryd.func7, Tryd.ntmps7
  go_wp2
  go_loopg [1, 5] T.length (fun gg s1 s5 wr => ∃ i : Nat, i ≤ T.length ∧ T.length - i ≤ gg ∧ s5 = .int .i64 i ∧ s1 = .int .i64 (nTo T n i : Nat) ∧ Aside0 (Kd.S (Kd.slice 3 (Kd.int .i64)) 30 wr w0.heap.size P (.slice A T.length c) (markS T n i)) ∧ Aside0 (Kept w wr P) ∧ Aside0 (Below w0.heap.size w0 wr))
  case atStart => exact ⟨0, Nat.zero_le _, Nat.le_refl _, rfl, rfl, HS, HK, HB⟩
  case round =>
    clear HS HK HB
    obtain ⟨i, hi, hg, rfl, rfl, HS, HK, HB⟩ := hrel
    by_cases hlt : i < T.length
    · have hz : (i : Int) < (T.length : Int) := by omega
      obtain ⟨ad, rfl, _⟩ := (Kd.R_reads' (Kd.S_R HS.out)).2.2.2.2 (show 0 < (markS T n i).length by rw [markS_length]; omega)
      obtain ⟨oki, cs, hcl, hM, hcc, hoki, hback⟩ := Kd.S_borrow HS.out ([] : List Int) (i : Int) (by omega) hz
      obtain ⟨u, rfl, hR⟩ := hM
      simp only [Int.toNat_natCast] at hR hcc hback
      rw [markS_get T n i i hlt, if_neg (by omega)] at hR
      have hx := hcc 0 _ rfl
      have hsz : (Kd.slice 3 (Kd.int .i64)).sz = 1 := rfl
      rw [hsz, Nat.mul_one, Nat.add_zero] at hx
      have hle : nTo T n i + (T.getD i []).length ≤ 4611686018427387904 := by
        have h1 := nTo_mono T n (T.length - (i + 1)) (i + 1)
        rw [show i + 1 + (T.length - (i + 1)) = T.length by omega] at h1
        have h2 : nTo T n (i + 1) = nTo T n i + (T.getD i []).length := rfl
        have := HN.out
        omega
      obtain ⟨k, hk⟩ := (markIntS_ev (T.getD i []) (nTo T n i) hle).rounds
      have hR2 : Kd.R (Kd.int .i64) 3 wr w0.heap.size (fun k => u.ownBlock = some k) u (T.getD i []) := Kd.R_flat (fun h => h) hR (fun k h _ => h)
      have hcall := laws_markIntS.calls k (fun k => u.ownBlock = some k) u (T.getD i []) (nTo T n i : Nat) _ _ w0 wr HB.out hR2 hk
      have HOW := Aside0.mk (fun k (h : u.ownBlock = some k) => hR.1 k h)
      have HOK := Aside0.mk hoki
      have HBK := Aside0.mk (fun w1 (hk : Kept wr w1 (fun k => u.ownBlock = some k)) (hb : Below w0.heap.size w0 w1) (h : Kd.R (Kd.int .i64) 3 w1 w0.heap.size (fun k => u.ownBlock = some k ∨ wr.heap.size ≤ k) u (numR (T.getD i []).length (nTo T n i))) =>
        show Kd.S (Kd.slice 3 (Kd.int .i64)) 30 w1 w0.heap.size P (.slice (some ad) T.length c) (markS T n (i + 1)) from by
          have := hback (w1 := w1) (row := u.ownBlock) (x' := numR (T.getD i []).length (nTo T n i)) ⟨hb.os.trans HB.out.os.symm, hb.tape.trans HB.out.tape.symm, hb.output.trans HB.out.output.symm, hk.1, fun k hk1 hk2 => hk.2 k hk1 (fun h => hk2 h.symm)⟩ (fun k h => hR.1 k h) ⟨u, rfl, Kd.R_flat (fun h => h) h (fun k h _ => hR.1 k h)⟩
          rwa [markS_set T n i hlt] at this)
      have HKK := Aside0.mk (fun w1 (hk : Kept wr w1 (fun k => u.ownBlock = some k)) => show Kept w w1 P from HK.out.then_ hk (fun k h => .inl (hoki k (hR.1 k h)).1))
      have hnx : nTo T n (i + 1) = nTo T n i + (T.getD i []).length := rfl
      have HNX := Aside0.mk hnx
      clear hback hR hR2 hcc hk hoki hnx
      go_wp2_with (go_at_call 15; refine hcall.mono ?_; rintro e w1 ⟨rfl, hr, hb, hk⟩; have HS1 := Aside0.mk (HBK.out _ hk hb hr); have HK1 := Aside0.mk (HKK.out _ hk); have HB1 := Aside0.mk hb; clear hr hb hk)
      go_roundg (T.length - (i + 1))
      case measure => omega
      case rel => exact ⟨i + 1, by omega, by omega, by go_num, by rw [HNX.out]; simp [List.getD_eq_getElem?_getD, hlt], HS1, HK1, HB1⟩
    · have hz : ¬ (i : Int) < (T.length : Int) := by omega
      have e : i = T.length := by omega
      subst e
      go_wp2
      go_ret
      exact ⟨rfl, HS.out, HB.out, HK.out⟩
end Go.Proofs.YtojohgjjlljbiaaDoor.L
