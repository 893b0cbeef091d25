/- Texts of one chain, in build order. -/
import Derived.Test.YtdcdkckpmkfjdaaYBJointTableSpreadOfParts20
import Derived.Test.YtdcdkckpmkfjdaaWMore
namespace Go.Proofs.Ytdcdkckpmkfjdaa
open Go.RowKit Go.Proofs.YtdcdkckpmkfjdaaW.PrintWords Go.Proofs.YtdcdkckpmkfjdaaW.PrintLast Go.Proofs.YtdcdkckpmkfjdaaW.PrintMore
set_option linter.unusedVariables false
set_option linter.unusedSimpArgs false

def cnt1 (c : List Int) (x : Int) : List Int := c.set x.toNat (wrap64 (rd c x + 1))
def cntRow (row : List Int) (c : List Int) : List Int := row.foldl cnt1 c
def cntAll (T : List (List Int)) (c : List Int) : List Int := T.foldl (fun c r => cntRow r c) c
def cTo (K : List (List Int)) (c : List Int) (i : Nat) : List Int := cntAll (K.take i) c
theorem cnt1_length (c : List Int) (x : Int) : (cnt1 c x).length = c.length := by simp [cnt1]
theorem cntRow_length : ∀ (row c : List Int), (cntRow row c).length = c.length
 | [], c => rfl
 | x :: r, c => (cntRow_length r (cnt1 c x)).trans (cnt1_length c x)
theorem cntAll_length : ∀ (T : List (List Int)) (c : List Int), (cntAll T c).length = c.length
 | [], c => rfl
 | r :: T, c => (cntAll_length T (cntRow r c)).trans (cntRow_length r c)
theorem cTo_length (K : List (List Int)) (c : List Int) (i : Nat) : (cTo K c i).length = c.length := cntAll_length _ _
theorem cTo_end (K : List (List Int)) (c : List Int) (i : Nat) (h : K.length ≤ i) : cTo K c i = cntAll K c := by unfold cTo; rw [List.take_of_length_le h]
theorem cTo_succ (K : List (List Int)) (c : List Int) (i : Nat) (h : i < K.length) : cTo K c (i + 1) = cntRow (K.getD i []) (cTo K c i) := by
 unfold cTo cntAll
 rw [List.take_add_one, List.getElem?_eq_getElem h, List.foldl_append, List.getD_eq_getElem?_getD, List.getElem?_eq_getElem h]; rfl
theorem cntRow_succ (row c : List Int) (j : Nat) (h : j < row.length) : cntRow (row.take (j + 1)) c = cnt1 (cntRow (row.take j) c) (rd row j) := by
 unfold cntRow
 rw [List.take_add_one, List.getElem?_eq_getElem h, List.foldl_append, show rd row j = row[j] by simp [rd, List.getD_eq_getElem?_getD, h]]; rfl

set_option maxHeartbeats 4000000 in
set_option maxRecDepth 100000 in
theorem spec_weCounts.callsG (A0 : Option Addr) (c0 : Nat) (l0 K : List (List Int)) (w : World)
  (hk : ∀ W, Below w.heap.size w W → Calls Try.prog 120 #[.slice A0 l0.length c0] W fun e w' => ∃ v0_ : Value, e = .returned (v0_) ∧ Kd.S (Kd.slice 3 (Kd.int .i64)) 22 w' W.heap.size (fun _ => True) v0_ K ∧ Below W.heap.size W w')
  (hK : ∀ i j : Nat, i < K.length → j < (K.getD i []).length → 0 ≤ rd (K.getD i []) j ∧ rd (K.getD i []) j < 6) :
  Calls Try.prog 77 #[.slice A0 l0.length c0] w (RetR w (cntAll K (List.replicate 6 0))) := by
 have HKK := Aside0.mk hk
 have HKR := Aside0.mk hK
 clear hk hK
 have mk1 : ∀ W : World, Sem.run Try.prog (Instr.makeSlice 22 (.int .i64 6) (.int .i64 6)) W = Result.ok (Value.slice (some ⟨W.heap.size, 0, none⟩) 6 6) (W.alloc (.cells (madeCells #[.int .i64 0] 6) 3)) := fun W => run_make_row' (P := Try.prog) 22 3 (.int .i64 0) 8 Try.underlying22 info_ints rfl .i64 .i64 6 (by omega) (by omega) W
 have hst : intBlk (w.alloc (.cells (madeCells #[.int .i64 0] 6) 3)) w.heap.size (List.replicate 6 0) := by unfold intBlk; have := blk_new w (.cells (madeCells #[.int .i64 0] 6) 3); rw [madeInts] at this ⊢; exact this
 have HST := Aside0.mk hst
 have HB0 := Aside0.mk (below_alloc (Below.refl w.heap.size w) (.cells (madeCells #[.int .i64 0] 6) 3))
 have HSZ := Aside0.mk (show w.heap.size < (w.alloc (.cells (madeCells #[.int .i64 0] 6) 3)).heap.size by show w.heap.size < (w.heap.push _).size; rw [Array.size_push]; omega)
 clear hst
 obtain ⟨zs, hzs⟩ : ∃ z, z = List.replicate 6 (0 : Int) := ⟨_, rfl⟩
 have hzl : zs.length = 6 := by rw [hzs]; rfl
 rw [← hzs] at HST ⊢
 clear hzs
 have HZL := Aside0.mk hzl
 clear hzl
 go_enter Try.func77, Try.ntmps77
 go_wp2_with (go_at_call 120; refine (HKK.out _ HB0.out).mono ?_; rintro e w1 ⟨v, rfl, hS, hb⟩; obtain ⟨A1, c1, rfl⟩ := Kd.R_slice (Kd.S_R hS); have hln := (Kd.R_reads' (Kd.S_R hS)).2.2.2.1; have HS := Aside0.mk hS; have HI := Aside0.mk (show intBlk w1 w.heap.size zs from blk_below HST.out hb); have HB1 := Aside0.mk (below_step HB0.out hb); clear hS hb)
 go_loopg [5, 7, 12] K.length (fun gg s5 s7 s12 wr => ∃ i : Nat, i ≤ K.length ∧ K.length - i ≤ gg ∧ s12 = .int .i64 i ∧ Aside0 (intBlk wr w.heap.size (cTo K zs i)) ∧ Aside0 (Kept w1 wr (fun k => k = w.heap.size)) ∧ Aside0 (Below w.heap.size w wr))
 case atStart => exact ⟨0, Nat.zero_le _, Nat.le_refl _, rfl, HI, ⟨Kept.refl _ _⟩, HB1⟩
 case round =>
  clear HI HB1 HST HB0 HKK
  obtain ⟨i, hi, hg, rfl, HI, HKP, HB⟩ := hrel
  obtain ⟨wo, rfl⟩ : ∃ wo : World, wo = wr := ⟨_, rfl⟩
  by_cases hlt : i < K.length
  ·have hz : (i : Int) < (K.length : Int) := by omega
   obtain ⟨g0, A2, c2, e0, hrow⟩ := rowKept HS.out HSZ.out i hlt
   cases e0
   have HR := Aside0.mk hrow
   have hx := (hrow _ HKP.out).1
   have HKR2 := Aside0.mk (fun j => HKR.out i j hlt)
   have HNX := Aside0.mk (cTo_succ K zs i hlt)
   clear hrow
   obtain ⟨row, hrw⟩ : ∃ r, r = K.getD i [] := ⟨_, rfl⟩
   rw [← hrw] at HR hx HKR2 HNX
   clear hrw
   have hrl := (HR.out _ HKP.out).2.2.2.1
   go_wp2
   go_loopg [7, 18] row.length (fun gj s7 s18 wr2 => ∃ j : Nat, j ≤ row.length ∧ row.length - j ≤ gj ∧ s18 = .int .i64 j ∧ Aside0 (intBlk wr2 w.heap.size (cntRow (row.take j) (cTo K zs i))) ∧ Aside0 (Kept w1 wr2 (fun k => k = w.heap.size)) ∧ Aside0 (Below w.heap.size w wr2))
   case atStart => exact ⟨0, Nat.zero_le _, Nat.le_refl _, rfl, HI, HKP, HB⟩
   case round =>
    clear HI HKP HB hx
    obtain ⟨j, hj, hgj, rfl, HI, HKP, HB⟩ := hrel
    by_cases hjt : j < row.length
    ·have hjz : (j : Int) < (row.length : Int) := by omega
     obtain ⟨ad, e1, hy⟩ := Kd.at_int (HR.out _ HKP.out).2.2 (j : Int) (by omega) hjz
     cases e1
     simp only [Int.toNat_natCast] at hy
     have hxr := HKR2.out j hjt
     have HC1 := Aside0.mk (cntRow_succ row (cTo K zs i) j hjt)
     obtain ⟨x, hxx⟩ : ∃ x, x = rd row j := ⟨_, rfl⟩
     rw [← hxx] at hy hxr HC1
     clear hxx
     obtain ⟨n, rfl⟩ := Int.eq_ofNat_of_zero_le hxr.1
     obtain ⟨cs, hcs⟩ : ∃ c, c = cntRow (row.take j) (cTo K zs i) := ⟨_, rfl⟩
     have hcl : cs.length = 6 := by rw [hcs, cntRow_length, cTo_length, HZL.out]
     rw [← hcs] at HI HC1
     clear hcs
     have hn6 : n < 6 := by omega
     have hn6z : (n : Int) < 6 := by omega
     have hcell := (blk_cell HI.out n).trans (show ((cs.map (Value.int .i64)).toArray[n]?) = some (.int .i64 (rd cs n)) by simp [rd, List.getD_eq_getElem?_getD, show n < cs.length by omega])
     have hfz := blk_frozen HI.out n
     have HP := Aside0.mk (show intBlk (wr.setCell ⟨w.heap.size, n, none⟩ (.int .i64 (wrap64 (rd cs n + 1)))) w.heap.size (cnt1 cs n) from blk_put HI.out n _ (by simp [cnt1]))
     have HK2 := Aside0.mk (HKP.out.setCell (p := ⟨w.heap.size, n, none⟩) (.inl rfl) (.int .i64 (wrap64 (rd cs n + 1))))
     have HB2 := Aside0.mk (HB.out.setCell (show w.heap.size ≤ (⟨w.heap.size, n, none⟩ : Addr).block from Nat.le_refl _) (.int .i64 (wrap64 (rd cs n + 1))))
     clear hxr hcl
     go_wp2
     go_roundg (row.length - (j + 1))
     case measure => omega
     case rel => exact ⟨j + 1, by omega, by omega, by go_num, by rw [HC1.out]; exact HP, HK2, HB2⟩
    ·have hjz : ¬ (j : Int) < (row.length : Int) := by omega
     have hjc : row.length ≤ j := by omega
     rw [List.take_of_length_le hjc, ← HNX.out] at HI
     go_wp2
     go_roundg (K.length - (i + 1))
     case measure => omega
     case rel => exact ⟨i + 1, by omega, by omega, by go_num, HI, HKP, HB⟩
  ·have hz : ¬ (i : Int) < (K.length : Int) := by omega
   have hir : K.length ≤ i := by omega
   rw [cTo_end K zs i hir] at HI
   have hR := intBlk_R (ok := fun _ => True) HI.out (Nat.le_refl _) trivial (by rw [cntAll_length, HZL.out]; omega)
   rw [cntAll_length, HZL.out] at hR
   have HRR := Aside0.mk hR
   clear hR
   go_wp2
   go_ret
   exact ⟨_, rfl, HRR.out, HB.out⟩

end Go.Proofs.Ytdcdkckpmkfjdaa
