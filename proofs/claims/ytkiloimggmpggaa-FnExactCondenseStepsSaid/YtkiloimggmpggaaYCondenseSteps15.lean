/- Texts of one chain, in build order. -/
import Derived.Test.YtkiloimggmpggaaYCondenseSteps14
namespace Go.Proofs.Ytkiloimggmpggaa.L
open Go.RowKit Go.Proofs.Ytkiloimggmpggaa Go.Proofs.Ytkiloimggmpggaa.P Go.Proofs.YtkiloimggmpggaaW.PrintWords Go.Proofs.YtkiloimggmpggaaW.PrintLast Go.Proofs.YtkiloimggmpggaaW.PrintMore
set_option linter.unusedVariables false
set_option linter.unusedSimpArgs false

/-- A table as one row. -/
def flat (T : List (List Q)) : List S25 := T.flatten.map qS
theorem flat_append (T U : List (List Q)) : flat (T ++ U) = flat T ++ flat U := by simp [flat]
theorem flatten_at (m : Nat) : ∀ (T : List (List Q)) (i j : Nat), (∀ i, i < T.length → (T.getD i []).length = m) → i < T.length → j < m → T.flatten[i * m + j]? = some (at2 T i j)
 | [], i, j, _, hi, _ => by simp at hi
 | r :: T, i, j, hr, hi, hj => by
  have h0 : r.length = m := by have := hr 0 (by simp); simpa using this
  rw [List.flatten_cons]
  cases i with
  | zero =>
   rw [Nat.zero_mul, Nat.zero_add, List.getElem?_append_left (by omega), List.getElem?_eq_getElem (by omega)]
   unfold at2
   simp [List.getD_eq_getElem?_getD, show j < r.length by omega]
  | succ i =>
   have hk : (i + 1) * m + j = r.length + (i * m + j) := by rw [Nat.succ_mul, h0]; omega
   rw [hk, List.getElem?_append_right (by omega), Nat.add_sub_cancel_left]
   have := flatten_at m T i j (fun k hk => by have := hr (k + 1) (by simpa using hk); simpa using this) (by simpa using hi) hj
   rw [this]
   simp [at2]
theorem flat_length (m : Nat) : ∀ (T : List (List Q)), (∀ i, i < T.length → (T.getD i []).length = m) → (flat T).length = T.length * m
 | [], _ => by simp [flat]
 | r :: T, hr => by
  have h0 : r.length = m := by have := hr 0 (by simp); simpa using this
  have := flat_length m T (fun k hk => by have := hr (k + 1) (by simpa using hk); simpa using this)
  simp only [flat, List.length_map, List.flatten_cons, List.length_append, List.length_cons] at this ⊢
  rw [this, h0, Nat.succ_mul, Nat.add_comm]
theorem Sq.flat_len {T : List (List Q)} {m N D : Nat} (h : Sq T m N D) : (flat T).length = m * m := by
 rw [flat_length m T (fun i hi => h.row i (by rw [← h.len]; exact hi)), h.len]
theorem Sq.flat_at {T : List (List Q)} {m N D : Nat} (h : Sq T m N D) (i j k : Nat) (hi : i < m) (hj : j < m) (hk : k = i * m + j) : rd_T25 (flat T) (k : Int) = qS (at2 T i j) := by
 have := flatten_at m T i j (fun i hi => h.row i (by rw [← h.len]; exact hi)) (by rw [h.len]; exact hi) hj
 show (flat T).getD (k : Int).toNat z25 = _
 rw [Int.toNat_natCast, hk, List.getD_eq_getElem?_getD, flat, List.getElem?_map, this]
 rfl
theorem info_ratio : (Try.prog.info? 25).map (fun i => (i.zero, i.size, i.bytes)) = some (some (.agg #[.int .i64 0, .int .i64 0]), 2, 16) := by kernel_rfl
theorem info_rrow : (Try.prog.info? 53).map (fun i => (i.zero, i.size, i.bytes)) = some (some (.slice none 0 0), 1, 24) := by kernel_rfl
theorem pw_i (a b c : Nat) (h : a + b = c) (hc : c ≤ 1000000) : IntKind.i64.wrap ((a : Int) + (b : Int)) = (c : Int) := by rw [i64_w, ← h, ← Int.natCast_add]; exact wrapN _ (by omega)
theorem pw_s (a c : Nat) (h : a + 1 = c) (hc : c ≤ 1000000) : IntKind.i64.wrap ((a : Int) + 1) = (c : Int) := by rw [i64_w, ← h]; exact wrapS _ (by omega)
theorem pw_m (a b c : Nat) (h : a * b = c) (hc : c ≤ 1000000) : IntKind.i64.wrap ((a : Int) * (b : Int)) = (c : Int) := by rw [i64_w, ← h, ← Int.natCast_mul]; exact wrapN _ (by omega)
/-- The places of a flat table that one place of the next one reads. -/
theorem two_at {W : World} {ok : Nat → Prop} {A : Option Addr} {n : Nat} {xs : List S25} (h : Kd.F k25 W ok A n xs) (k : Nat) (hk : k < n) (q : Q) (hq : rd_T25 xs (k : Int) = qS q) :
  ∃ ad, A = some ad ∧ W.cell? (ad.add (k * 2)) = some (.int .i64 q.n) ∧ W.cell? ⟨(ad.add (k * 2)).block, (ad.add (k * 2)).off + 1, none⟩ = some (.int .i64 q.d) := by
 obtain ⟨ad, e, h1, h2⟩ := at_T25 (Kd.F_now h) (k : Int) (by omega) (by omega)
 rw [hq, Int.toNat_natCast] at h1 h2
 exact ⟨ad, e, h1, h2⟩

theorem row_qS (row : List Int) (h : ∀ j : Nat, j < row.length → 1 ≤ rd row (j : Int)) : flat [row.map fun x => (⟨x.toNat, 1⟩ : Q)] = row.map fun x => (⟨x, 1⟩ : S25) := by
 unfold flat
 rw [List.flatten_cons, List.flatten_nil, List.append_nil, List.map_map]
 apply List.map_congr_left
 intro x hx
 obtain ⟨j, hj, rfl⟩ := List.mem_iff_getElem.1 hx
 have := h j hj
 rw [rd_at _ _ hj] at this
 show (⟨((row[j].toNat : Nat) : Int), ((1 : Nat) : Int)⟩ : S25) = _
 rw [Int.toNat_of_nonneg (by omega)]
 rfl
theorem held4 {w W : World} {p1 p2 p3 p4 : Addr} {v1 v2 v3 v4 : Value} (hb : Below w.heap.size w W) (h1 : w.cell? p1 = some v1) (h2 : w.cell? p2 = some v2) (h3 : w.cell? p3 = some v3) (h4 : w.cell? p4 = some v4) :
  W.cell? p1 = some v1 ∧ W.cell? p2 = some v2 ∧ W.cell? p3 = some v3 ∧ W.cell? p4 = some v4 ∧ Below w.heap.size w W := ⟨pw_cell_below hb h1, pw_cell_below hb h2, pw_cell_below hb h3, pw_cell_below hb h4, hb⟩
/-- The blocks of the call's own, but for one row. -/
def okF (B : Nat) (v : Value) : Nat → Prop := fun k => B ≤ k ∧ some k ≠ v.ownBlock
theorem bef_flat (n n1 nn : Nat) (h1 : n1 = n + 1) (h2 : nn = n1 * n1) : flat (bef0 n) = List.replicate nn ⟨1, 1⟩ := by
 unfold flat bef0
 rw [List.flatten_replicate_replicate, List.map_replicate, h2, h1]
 rfl
set_option maxHeartbeats 8000000 in
set_option maxRecDepth 100000 in
theorem spec_weSteps.callsG (A0 : Option Addr) (c0 : Nat) (l0 : List (List Int)) (lam : Nat) (hlam : lam ≤ 3) (w : World) (hr0 : Kd.C (Kd.slice 3 (Kd.int .i64)) w A0 l0.length l0) (hc0 : l0.length ≤ c0)
  (h1 : 1 ≤ l0.length) (h4 : l0.length ≤ 4) (hrl : ∀ i, i < l0.length → (l0.getD i []).length = l0.length) (hrv : ∀ i j : Nat, i < l0.length → j < l0.length → 1 ≤ rd (l0.getD i []) (j : Int) ∧ rd (l0.getD i []) (j : Int) ≤ 4) :
  Calls Try.prog 40 #[.slice A0 l0.length c0, .int .i64 lam] w fun e w' => ∃ v0_ : Value, e = .returned v0_ ∧ Kd.N (Kd.slice 25 k25) 53 w' w.heap.size (fun k_ => (w.heap.size ≤ k_)) v0_ ((stepsQ lam (l0.length - 1) (bef0 l0.length) (now0 l0)).map flat) ∧ Below w.heap.size w w' := by
 obtain ⟨n, hn⟩ : ∃ n, n = l0.length := ⟨_, rfl⟩
 obtain ⟨n1, hn1⟩ : ∃ n1, n1 = n + 1 := ⟨_, rfl⟩
 obtain ⟨nn, hnn⟩ : ∃ nn, nn = n1 * n1 := ⟨_, rfl⟩
 have hw1 : IntKind.i64.wrap ((l0.length : Int) + 1) = (n1 : Int) := pw_s _ _ (by omega) (by omega)
 have hnn5 : nn ≤ 25 := by rw [hnn]; exact Nat.mul_le_mul (show n1 ≤ 5 by omega) (show n1 ≤ 5 by omega)
 have hw2 : IntKind.i64.wrap ((n1 : Int) * (n1 : Int)) = (nn : Int) := pw_m _ _ _ hnn.symm (by omega)
 have HB := Aside0.mk (Below.refl w.heap.size w)
 have HR := Aside0.mk (Kd.R_nil k25 25 w w.heap.size (fun _ => True))
 have HR0 := Aside0.mk hr0
 have HFX := Aside0.mk (And.intro hn (And.intro hn1 (And.intro hnn hnn5)))
 have HRL := Aside0.mk hrl
 have HRV := Aside0.mk hrv
 clear hr0 hrl hrv hn hn1 hnn
 go_enter Try.func40, Try.ntmps40
 go_wp2
 go_loopg [6, 8] nn (fun gg s6 s8 wr => ∃ i : Nat, i ≤ nn ∧ nn - i ≤ gg ∧ s8 = .int .i64 i ∧ Aside0 (Kd.R k25 25 wr w.heap.size (fun _ => True) s6 (List.replicate i ⟨1, 1⟩)) ∧ Aside0 (Below w.heap.size w wr))
 case atStart => exact ⟨0, Nat.zero_le _, Nat.le_refl _, rfl, HR, HB⟩
 case round =>
  clear HR HB
  obtain ⟨i, hi, hg, rfl, HR, HB⟩ := hrel
  by_cases hlt : i < nn
  ·have hz : (i : Int) < (nn : Int) := by omega
   have HL := Aside0.mk (show ((List.replicate i (⟨1, 1⟩ : S25)).length + 1) * 16 ≤ 140737488355328 by rw [List.length_replicate]; omega)
   have HST := Aside0.mk (show List.replicate (i + 1) (⟨1, 1⟩ : S25) = List.replicate i ⟨1, 1⟩ ++ [⟨1, 1⟩] from List.replicate_succ')
   have HIG := Aside0.mk (And.intro hi (And.intro hg hlt))
   clear hi hg
   go_wp2_with (((with_reducible refine gate_builtin (b := .append) (xs := #[.tmp 33, .tmp 35]) rfl ?_); at_builtin; refine Kd.R_append k25 (w0 := w) w.heap.size rfl (.tmp 33) (.tmp 35) 53 25 (.agg #[.int .i64 0, .int .i64 0]) 16 rfl Try.underlying53 info_ratio rfl (by decide) (by omega) u6 (List.replicate i ⟨1, 1⟩) ⟨1, 1⟩ [.int .i64 1, .int .i64 1] (fun _ => True) (fun _ => False) rfl rfl ?aP ?aF ?aO ?aH ?aB ?aS ?aL ?_; (case aP => exact k25_mkM _ _ _ _); (case aF => exact fun _ hk => hk.elim); (case aO => exact fun _ _ => trivial); (case aH => exact HR.out); (case aB => exact HB.out); (case aS => exact HB.out.size); (case aL => exact HL.out); intro v8 w8 ho hb hg hat; rw [← HST.out] at ho; have HR8 := Aside0.mk ho; have HB8 := Aside0.mk hb; clear ho hb hg hat))
   go_roundg (nn - (i + 1))
   case measure => have := HIG.out; omega
   case rel => exact ⟨i + 1, by have := HIG.out; omega, Nat.le_refl _, by go_num, HR8, HB8⟩
  ·have hz : ¬ (i : Int) < (nn : Int) := by omega
   have HBF := Aside0.mk (show Kd.R k25 25 wr w.heap.size (fun _ => True) u6 (List.replicate nn ⟨1, 1⟩) by have h := HR.out; rwa [show i = nn by omega] at h)
   have HBW := Aside0.mk HB.out
   obtain ⟨wb, rfl⟩ : ∃ wo : World, wo = wr := ⟨_, rfl⟩
   have HN := Aside0.mk (Kd.R_nil k25 25 wb wb.heap.size (fun _ => True))
   have HB := Aside0.mk (Below.refl wb.heap.size wb)
   clear HR hi hg hlt
   go_wp2
   go_loopg [7, 39] l0.length (fun gg s7 s39 wr => ∃ i : Nat, i ≤ l0.length ∧ l0.length - i ≤ gg ∧ s39 = .int .i64 i ∧ Aside0 (Kd.R k25 25 wr wb.heap.size (fun _ => True) s7 (flat (now0 (l0.take i)))) ∧ Aside0 (Below wb.heap.size wb wr))
   case atStart => exact ⟨0, Nat.zero_le _, Nat.le_refl _, rfl, HN, HB⟩
   case round =>
    clear HN HB
    obtain ⟨i, hi, hg, rfl, HN, HB⟩ := hrel
    by_cases hlt : i < l0.length
    ·have hz : (i : Int) < (l0.length : Int) := by omega
     obtain ⟨ad, A1, c1, eA, hcell, hc1, hC1⟩ := at_L1 HR0.out (i : Int) (by omega) (by omega)
     subst eA
     rw [rd1_get, Int.toNat_natCast] at hcell
     rw [rd1_get] at hc1 hC1
     obtain ⟨row, hrow⟩ : ∃ r, r = l0.getD i [] := ⟨_, rfl⟩
     have hrl2 := HRL.out i hlt
     rw [← hrow] at hcell hc1 hC1 hrl2
     have HBO := Aside0.mk (below_step HBW.out HB.out)
     have hx := pw_cell_below HBO.out hcell
     have HC1 := Aside0.mk hC1
     have HIG := Aside0.mk (And.intro hi (And.intro hg hlt))
     have HPR := Aside0.mk (show now0 (l0.take (i + 1)) = now0 (l0.take i) ++ [row.map fun x => (⟨x.toNat, 1⟩ : Q)] by
      unfold now0
      rw [List.take_succ_eq_append_getElem hlt, List.map_append, hrow, List.getD_eq_getElem?_getD, List.getElem?_eq_getElem hlt]; rfl)
     have HLN := Aside0.mk (show (flat (now0 (l0.take i))).length ≤ 16 by
      rw [flat_length l0.length _ (fun k hk => by
       simp only [now0, List.length_map, List.length_take] at hk
       have := HRL.out k (by omega)
       rw [List.getD_eq_getElem?_getD, List.getElem?_eq_getElem (by omega), Option.getD_some] at this
       rw [List.getD_eq_getElem?_getD, List.getElem?_eq_getElem (by simp [now0]; omega), Option.getD_some]
       simp [now0, this])]
      simp only [now0, List.length_map, List.length_take]
      exact Nat.le_trans (Nat.mul_le_mul (show min i l0.length ≤ 4 by omega) h4) (by decide))
     have HRV2 := Aside0.mk (fun j hj => HRV.out i j hlt hj)
     rw [← hrow] at HRV2
     clear hi hg hC1 hcell hrow
     obtain ⟨wo, rfl⟩ : ∃ wo : World, wo = wr := ⟨_, rfl⟩
     obtain ⟨pre, hpre⟩ : ∃ p, p = flat (now0 (l0.take i)) := ⟨_, rfl⟩
     rw [← hpre] at HN HLN
     have HPRE := Aside0.mk hpre
     clear hpre
     have hzl : (row.length : Int) = (l0.length : Int) := by omega
     go_wp2
     go_loopg [7, 45] row.length (fun gg s7 s45 wq => ∃ j : Nat, j ≤ row.length ∧ row.length - j ≤ gg ∧ s45 = .int .i64 j ∧ Aside0 (Kd.R k25 25 wq wb.heap.size (fun _ => True) s7 (pre ++ ((row.take j).map fun x => (⟨x, 1⟩ : S25)))) ∧ Aside0 (Below wb.heap.size wb wq))
     case atStart => exact ⟨0, Nat.zero_le _, Nat.le_refl _, rfl, ⟨by rw [List.take_zero, List.map_nil, List.append_nil]; exact HN.out⟩, HB⟩
     case round =>
      clear HN HB
      obtain ⟨j, hj, hgj, rfl, HN, HB⟩ := hrel
      by_cases hjt : j < row.length
      ·have hjz : (j : Int) < (row.length : Int) := by omega
       obtain ⟨ad2, e2, hy⟩ := Kd.at_int (Kd.C_below HC1.out (below_step HBW.out HB.out)) (j : Int) (by omega) hjz
       subst e2
       rw [Int.toNat_natCast] at hy
       obtain ⟨x, hxx⟩ : ∃ x, x = rd row (j : Int) := ⟨_, rfl⟩
       rw [← hxx] at hy
       have HST := Aside0.mk (show pre ++ ((row.take (j + 1)).map fun x => (⟨x, 1⟩ : S25)) = (pre ++ ((row.take j).map fun x => (⟨x, 1⟩ : S25))) ++ [⟨x, 1⟩] by
        rw [List.take_succ_eq_append_getElem hjt, List.map_append, List.append_assoc, hxx, rd_at row j hjt]; rfl)
       have HL := Aside0.mk (show ((pre ++ ((row.take j).map fun x => (⟨x, 1⟩ : S25))).length + 1) * 16 ≤ 140737488355328 by
        rw [List.length_append, List.length_map, List.length_take]; have := HLN.out; omega)
       have HJG := Aside0.mk (And.intro hj (And.intro hgj hjt))
       clear hj hgj hxx
       go_wp2_with ((with_reducible refine gate_builtin (b := .append) (xs := #[.tmp 49, .tmp 52]) rfl ?_); at_builtin; refine Kd.R_append k25 (w0 := wb) wb.heap.size rfl (.tmp 49) (.tmp 52) 53 25 (.agg #[.int .i64 0, .int .i64 0]) 16 rfl Try.underlying53 info_ratio rfl (by decide) (by omega) u7 (pre ++ ((row.take j).map fun x => (⟨x, 1⟩ : S25))) ⟨x, 1⟩ [.int .i64 x, .int .i64 1] (fun _ => True) (fun _ => False) rfl rfl ?aP ?aF ?aO ?aH ?aB ?aS ?aL ?_; (case aP => exact k25_mkM _ _ _ _); (case aF => exact fun _ hk => hk.elim); (case aO => exact fun _ _ => trivial); (case aH => exact HN.out); (case aB => exact HB.out); (case aS => exact HB.out.size); (case aL => exact HL.out); intro v8 w8 ho hb hg hat; rw [← HST.out] at ho; have HR8 := Aside0.mk ho; have HB8 := Aside0.mk hb; clear ho hb hg hat)
       go_roundg (row.length - (j + 1))
       case measure => have := HJG.out; omega
       case rel => exact ⟨j + 1, by have := HJG.out; omega, Nat.le_refl _, by go_num, HR8, HB8⟩
      ·have hjz : ¬ (j : Int) < (row.length : Int) := by omega
       have HN2 := Aside0.mk (show Kd.R k25 25 wr wb.heap.size (fun _ => True) u7 (flat (now0 (l0.take (i + 1)))) by
        have h := HN.out
        rw [List.take_of_length_le (by omega), ← row_qS row (fun k hk => (HRV2.out k (by omega)).1), HPRE.out, ← flat_append, ← HPR.out] at h
        exact h)
       clear hj hgj hjt
       go_wp2
       go_roundg (l0.length - (i + 1))
       case measure => have := HIG.out; omega
       case rel => exact ⟨i + 1, by have := HIG.out; omega, Nat.le_refl _, by go_num, HN2, HB⟩
    ·have hz : ¬ (i : Int) < (l0.length : Int) := by omega
     have HX := HFX.out
     have hsq := now0_Sq HRL.out HRV.out
     have HN2 := Aside0.mk (show Kd.R k25 25 wr wb.heap.size (fun _ => True) u7 (flat (now0 l0)) by
      have h := HN.out
      rw [List.take_of_length_le (by omega)] at h
      exact h)
     have HB2 := Aside0.mk (show Kd.R k25 25 wr w.heap.size (fun k => w.heap.size ≤ k ∧ k < wb.heap.size) u6 (flat (bef0 l0.length)) by
      rw [bef_flat l0.length n1 nn (by rw [HX.2.1, HX.1]) HX.2.2.1]
      exact Kd.R_below (Kd.R_mono (Kd.R_bound HBF.out) (fun k hk => ⟨hk.2.1, hk.2.2.1⟩)) HB.out)
     obtain ⟨Ab, cb, eb⟩ := Kd.R_slice HB2.out
     obtain ⟨An, cn, en⟩ := Kd.R_slice HN2.out
     subst eb
     subst en
     have hlb : (flat (bef0 l0.length)).length = (l0.length + 1) * (l0.length + 1) := (bef0_Sq l0.length).flat_len
     have hln : (flat (now0 l0)).length = l0.length * l0.length := hsq.flat_len
     obtain ⟨b2, hb2⟩ : ∃ b2, b2 = (l0.length + 1) * (l0.length + 1) := ⟨_, rfl⟩
     obtain ⟨mm, hmm⟩ : ∃ mm, mm = l0.length * l0.length := ⟨_, rfl⟩
     have HFB := Aside0.mk (Kd.R_F HB2.out)
     have HFN := Aside0.mk (Kd.F_mono (ok' := fun k => wb.heap.size ≤ k ∧ k < wr.heap.size) (Kd.R_F (Kd.R_bound HN2.out)) (fun k hk => ⟨hk.2.1, hk.2.2.1⟩))
     rw [hlb, ← hb2] at HFB
     rw [hln, ← hmm] at HFN
     have hcn := (Kd.R_reads' HN2.out).2.1
     rw [hlb, ← hb2, hln, ← hmm]
     rw [hln, ← hmm] at hcn
     have HBW2 := Aside0.mk (below_step HBW.out HB.out)
     have HWB := Aside0.mk (And.intro HBW.out.size HB.out.size)
     have HO := Aside0.mk (one_N (d := k25) (e := 53) (e1 := 25) (W := wr) (ok := fun k => w.heap.size ≤ k) (okp := fun k => wb.heap.size ≤ k ∧ k < wr.heap.size) (x := flat (now0 l0)) (u := .slice An mm cn) (by
      have h := Kd.FK_slice_mk (e := 25) (c := cn) (l := flat (now0 l0)) (by rw [hln, ← hmm]; exact hcn) (by rw [hln, ← hmm]; exact HFN.out)
      rw [hln, ← hmm] at h
      exact h) (fun k hk => Nat.le_trans HWB.out.1 hk.1) (Nat.le_trans HWB.out.1 HWB.out.2) (fun k hk => hk.2))
     obtain ⟨wa, hwa⟩ : ∃ wa, wa = wr.alloc (.cells #[.slice An mm cn] 53) := ⟨_, rfl⟩
     have HBA := Aside0.mk (show Below wr.heap.size wr wa by rw [hwa]; exact below_alloc (Below.refl _ _) _)
     rw [← hwa] at HO
     have HWA := Aside0.mk hwa
     have HSB := Aside0.mk (bef0_Sq l0.length)
     have HSN := Aside0.mk hsq
     have HBM := Aside0.mk (And.intro hb2 hmm)
     obtain ⟨ALL, hALL⟩ : ∃ L, L = stepsQ lam (l0.length - 1) (bef0 l0.length) (now0 l0) := ⟨_, rfl⟩
     have HALL := Aside0.mk hALL
     have HCN := Aside0.mk hcn
     clear hi hg hlt HN HB HX hsq hlb hln hcn hb2 hmm hwa hALL
     go_wp2
     rw [← HWA.out]
     go_loopg [6, 7, 13, 14] l0.length (fun gg s6 s7 s13 s14 wq => ∃ (d m mm b2 : Nat) (bef now : List (List Q)) (pre : List (List (List Q))) (Ab : Option Addr) (cb : Nat) (An : Option Addr) (cn : Nat),
      s14 = .int .i64 m ∧ s6 = .slice Ab b2 cb ∧ s7 = .slice An mm cn ∧ d ≤ gg ∧ Aside0 (m = d + 1 ∧ mm = m * m ∧ b2 = (m + 1) * (m + 1) ∧ d + 1 ≤ l0.length ∧ mm ≤ cn) ∧
      Aside0 (Sq bef (m + 1) (bN (l0.length - m)) (bD (l0.length - m))) ∧ Aside0 (Sq now m (bN (l0.length - m + 1)) (bD (l0.length - m + 1))) ∧ Aside0 (pre ++ stepsQ lam d bef now = ALL) ∧
      Aside0 (Kd.F k25 wq (okF w.heap.size s13) Ab b2 (flat bef)) ∧ Aside0 (Kd.F k25 wq (okF w.heap.size s13) An mm (flat now)) ∧
      Aside0 (Kd.N (Kd.slice 25 k25) 53 wq w.heap.size (fun k => w.heap.size ≤ k) s13 ((pre ++ [now]).map flat)) ∧ Aside0 (Below w.heap.size w wq))
     case atStart =>
      refine ⟨l0.length - 1, l0.length, mm, b2, bef0 l0.length, now0 l0, [], Ab, cb, An, cn, rfl, rfl, rfl, by omega, ⟨by omega, HBM.out.2, HBM.out.1, by omega, HCN.out⟩, ?_, ?_, ?_, ?_, ?_, ?_, ⟨below_step HBW2.out HBA.out⟩⟩
      ·rw [Nat.sub_self]; exact HSB
      ·rw [Nat.sub_self]; exact HSN
      ·exact ⟨by rw [List.nil_append]; exact HALL.out.symm⟩
      ·exact ⟨Kd.F_mono (Kd.F_bound (Kd.F_below HFB.out HBA.out)) (fun k hk => ⟨hk.1.1, fun e => by
        have : k = wr.heap.size := by simpa [Value.ownBlock] using e
        have := HWB.out.2; have := hk.1.2; omega⟩)⟩
      ·exact ⟨Kd.F_mono (Kd.F_below HFN.out HBA.out) (fun k hk => ⟨Nat.le_trans HWB.out.1 hk.1, fun e => by
        have : k = wr.heap.size := by simpa [Value.ownBlock] using e
        have := hk.2; omega⟩)⟩
      ·exact ⟨Kd.N_lower HO.out (Nat.le_trans HWB.out.1 HWB.out.2)⟩
     case round =>
      clear HO HFB HFN HBM HSB HSN HCN
      obtain ⟨d, m, mm, b2, bef, now, pre, Ab, cb, An, cn, rfl, rfl, rfl, hg, HM, HSB, HSN, HALL2, HFB, HFN, HO, HBQ⟩ := hrel
      by_cases hd : 0 < d
      ·have hmz : (m : Int) > 1 := by have := HM.out.1; omega
       obtain ⟨wo, rfl⟩ : ∃ wo : World, wo = wr := ⟨_, rfl⟩
       have HNX := Aside0.mk (show Kd.R k25 25 wo wo.heap.size (fun _ => True) (.slice none 0 0) (flat (rowsQ lam now bef d 0)) from Kd.R_nil k25 25 wo wo.heap.size (fun _ => True))
       have HB := Aside0.mk (Below.refl wo.heap.size wo)
       have HDG := Aside0.mk (And.intro hd hg)
       clear hd hg
       go_wp2
       go_loopg [15, 16] d (fun gg s15 s16 wq => ∃ i : Nat, i ≤ d ∧ d - i ≤ gg ∧ s16 = .int .i64 i ∧ Aside0 (Kd.R k25 25 wq wo.heap.size (fun _ => True) s15 (flat (rowsQ lam now bef d i))) ∧ Aside0 (Below wo.heap.size wo wq))
       case atStart => exact ⟨0, Nat.zero_le _, Nat.le_refl _, rfl, HNX, HB⟩
       case round =>
        clear HNX HB
        obtain ⟨i, hi, hgi, rfl, HNX, HB⟩ := hrel
        have hd3 : d ≤ 3 := by have := HM.out.2.2.2.1; omega
        obtain ⟨i1, hi1⟩ : ∃ i1, i1 = i + 1 := ⟨_, rfl⟩
        have hwi : IntKind.i64.wrap ((i : Int) + 1) = (i1 : Int) := pw_s _ _ hi1.symm (by omega)
        by_cases hlt : i < d
        ·have hz : (i1 : Int) < (m : Int) := by have := HM.out.1; omega
         have HI := Aside0.mk (And.intro hi (And.intro hgi (And.intro hlt (And.intro hi1 hd3))))
         clear hi hgi hi1
         obtain ⟨pre2, hpre2⟩ : ∃ p, p = flat (rowsQ lam now bef d i) := ⟨_, rfl⟩
         rw [← hpre2] at HNX
         have HPRE2 := Aside0.mk hpre2
         clear hpre2
         go_wp2
         go_loopg [15, 17] d (fun gg s15 s17 wq => ∃ j : Nat, j ≤ d ∧ d - j ≤ gg ∧ s17 = .int .i64 j ∧ Aside0 (Kd.R k25 25 wq wo.heap.size (fun _ => True) s15 (pre2 ++ (rowQ lam now bef i j).map qS)) ∧ Aside0 (Below wo.heap.size wo wq))
         case atStart => exact ⟨0, Nat.zero_le _, Nat.le_refl _, rfl, ⟨by rw [show rowQ lam now bef i 0 = [] from rfl, List.map_nil, List.append_nil]; exact HNX.out⟩, HB⟩
         case round =>
          clear HNX HB
          obtain ⟨j, hj, hgj, rfl, HNX, HB⟩ := hrel
          obtain ⟨_, _, _, hi1, hd3⟩ := HI.out
          obtain ⟨hM1, hM2, hM3, hM4, hM5⟩ := HM.out
          obtain ⟨j1, hj1⟩ : ∃ j1, j1 = j + 1 := ⟨_, rfl⟩
          have hwj : IntKind.i64.wrap ((j : Int) + 1) = (j1 : Int) := pw_s _ _ hj1.symm (by omega)
          by_cases hjt : j < d
          ·have hjz : (j1 : Int) < (m : Int) := by omega
           have hm4 : m ≤ 4 := by omega
           obtain ⟨im, him⟩ : ∃ x, x = i * m := ⟨_, rfl⟩
           obtain ⟨i1m, hi1m⟩ : ∃ x, x = i1 * m := ⟨_, rfl⟩
           obtain ⟨m1, hm1⟩ : ∃ x, x = m + 1 := ⟨_, rfl⟩
           obtain ⟨ib, hib⟩ : ∃ x, x = i1 * m1 := ⟨_, rfl⟩
           obtain ⟨k1, hk1⟩ : ∃ x, x = im + j := ⟨_, rfl⟩
           obtain ⟨k2, hk2⟩ : ∃ x, x = i1m + j := ⟨_, rfl⟩
           obtain ⟨k3, hk3⟩ : ∃ x, x = k2 + 1 := ⟨_, rfl⟩
           obtain ⟨k4, hk4⟩ : ∃ x, x = k1 + 1 := ⟨_, rfl⟩
           obtain ⟨kb, hkb⟩ : ∃ x, x = ib + j := ⟨_, rfl⟩
           obtain ⟨kc, hkc⟩ : ∃ x, x = kb + 1 := ⟨_, rfl⟩
           have bim : im ≤ 16 := by rw [him]; exact Nat.mul_le_mul (show i ≤ 4 by omega) hm4
           have bi1m : i1m ≤ 16 := by rw [hi1m]; exact Nat.mul_le_mul (show i1 ≤ 4 by omega) hm4
           have bib : ib ≤ 20 := by rw [hib]; exact Nat.mul_le_mul (show i1 ≤ 4 by omega) (show m1 ≤ 5 by omega)
           have l1 : k4 < mm := by
            rw [hM2, hk4, hk1, him]
            exact Nat.lt_of_lt_of_le (show i * m + j + 1 < (i + 1) * m by rw [Nat.succ_mul]; omega) (Nat.mul_le_mul_right m (by omega))
           have l3 : k3 < mm := by
            rw [hM2, hk3, hk2, hi1m]
            exact Nat.lt_of_lt_of_le (show i1 * m + j + 1 < (i1 + 1) * m by rw [Nat.succ_mul]; omega) (Nat.mul_le_mul_right m (by omega))
           have lc : kc < b2 := by
            rw [hM3, hkc, hkb, hib, hm1]
            exact Nat.lt_of_lt_of_le (show i1 * (m + 1) + j + 1 < (i1 + 1) * (m + 1) by rw [Nat.succ_mul]; omega) (Nat.mul_le_mul_right (m + 1) (by omega))
           have g1 := HSN.out.flat_at i j k1 (by omega) (by omega) (by rw [hk1, him])
           have g2 := HSN.out.flat_at (i + 1) j k2 (by omega) (by omega) (by rw [hk2, hi1m, hi1])
           have g3 := HSN.out.flat_at (i + 1) (j + 1) k3 (by omega) (by omega) (by rw [hk3, hk2, hi1m, hi1]; omega)
           have g4 := HSN.out.flat_at i (j + 1) k4 (by omega) (by omega) (by rw [hk4, hk1, him]; omega)
           have gc := HSB.out.flat_at (i + 1) (j + 1) kc (by omega) (by omega) (by rw [hkc, hkb, hib, hi1, hm1]; omega)
           obtain ⟨one, bc, two, sm, HCC, hrin, hrp⟩ := cell_calls lam hlam (at2 now i j) (at2 now i (j + 1)) (at2 now (i + 1) j) (at2 now (i + 1) (j + 1)) (at2 bef (i + 1) (j + 1)) (nums_ok (s := l0.length - m) (by omega)) (HSN.out.ok i j (by omega) (by omega)) (HSN.out.ok i (j + 1) (by omega) (by omega)) (HSN.out.ok (i + 1) j (by omega) (by omega)) (HSN.out.ok (i + 1) (j + 1) (by omega) (by omega)) (HSB.out.ok (i + 1) (j + 1) (by omega) (by omega))
           have HC := Aside0.mk HCC
           have HNB := Aside0.mk (Kd.F_below HFN.out HB.out)
           have HBB := Aside0.mk (Kd.F_below HFB.out HB.out)
           obtain ⟨ad, eA, c1, c2⟩ := two_at HNB.out k1 (by omega) _ g1
           subst eA
           obtain ⟨_, eA, c3, c4⟩ := two_at HNB.out k2 (by omega) _ g2
           cases eA
           obtain ⟨_, eA, c5, c6⟩ := two_at HNB.out k3 (by omega) _ g3
           cases eA
           obtain ⟨_, eA, c7, c8⟩ := two_at HNB.out k4 (by omega) _ g4
           cases eA
           obtain ⟨ab, eA, c9, c10⟩ := two_at HBB.out kc (by omega) _ gc
           subst eA
           have HRW := Aside0.mk (show pre2 ++ (rowQ lam now bef i (j + 1)).map qS = (pre2 ++ (rowQ lam now bef i j).map qS) ++ [qS (cellQ lam now bef i j)] by rw [rowQ_succ, List.map_append, List.append_assoc]; rfl)
           obtain ⟨r, hrr⟩ : ∃ r, r = cellQ lam now bef i j := ⟨_, rfl⟩
           rw [show cellOf lam (at2 now i j) (at2 now i (j + 1)) (at2 now (i + 1) j) (at2 now (i + 1) (j + 1)) (at2 bef (i + 1) (j + 1)) = r from hrr.symm] at HC
           rw [← hrr] at HRW
           obtain ⟨qa, hqa⟩ : ∃ q, q = at2 now i j := ⟨_, rfl⟩
           obtain ⟨qb, hqb⟩ : ∃ q, q = at2 now i (j + 1) := ⟨_, rfl⟩
           obtain ⟨qc, hqc⟩ : ∃ q, q = at2 now (i + 1) j := ⟨_, rfl⟩
           obtain ⟨qe, hqe⟩ : ∃ q, q = at2 now (i + 1) (j + 1) := ⟨_, rfl⟩
           obtain ⟨qf, hqf⟩ : ∃ q, q = at2 bef (i + 1) (j + 1) := ⟨_, rfl⟩
           rw [← hqa, ← hqb, ← hqc, ← hqe, ← hqf] at HC
           rw [← hqa] at c1 c2
           rw [← hqc] at c3 c4
           rw [← hqe] at c5 c6
           rw [← hqb] at c7 c8
           rw [← hqf] at c9 c10
           have w1 : IntKind.i64.wrap ((i : Int) * (m : Int)) = (im : Int) := pw_m _ _ _ him.symm (by omega)
           have w2 : IntKind.i64.wrap ((im : Int) + (j : Int)) = (k1 : Int) := pw_i _ _ _ hk1.symm (by omega)
           have w3 : IntKind.i64.wrap ((i1 : Int) * (m : Int)) = (i1m : Int) := pw_m _ _ _ hi1m.symm (by omega)
           have w4 : IntKind.i64.wrap ((i1m : Int) + (j : Int)) = (k2 : Int) := pw_i _ _ _ hk2.symm (by omega)
           have w5 : IntKind.i64.wrap ((k2 : Int) + 1) = (k3 : Int) := pw_s _ _ hk3.symm (by omega)
           have w6 : IntKind.i64.wrap ((k1 : Int) + 1) = (k4 : Int) := pw_s _ _ hk4.symm (by omega)
           have w7 : IntKind.i64.wrap ((m : Int) + 1) = (m1 : Int) := pw_s _ _ hm1.symm (by omega)
           have w8 : IntKind.i64.wrap ((i1 : Int) * (m1 : Int)) = (ib : Int) := pw_m _ _ _ hib.symm (by omega)
           have w9 : IntKind.i64.wrap ((ib : Int) + (j : Int)) = (kb : Int) := pw_i _ _ _ hkb.symm (by omega)
           have w10 : IntKind.i64.wrap ((kb : Int) + 1) = (kc : Int) := pw_s _ _ hkc.symm (by omega)
           have z1 : (0 : Int) ≤ (k1 : Int) := by omega
           have z2 : (k1 : Int) < (mm : Int) := by omega
           have z3 : (0 : Int) ≤ (k2 : Int) := by omega
           have z4 : (k2 : Int) < (mm : Int) := by omega
           have z5 : (0 : Int) ≤ (k3 : Int) := by omega
           have z6 : (k3 : Int) < (mm : Int) := by omega
           have z7 : (0 : Int) ≤ (k4 : Int) := by omega
           have z8 : (k4 : Int) < (mm : Int) := by omega
           have z9 : (0 : Int) ≤ (kc : Int) := by omega
           have z10 : (kc : Int) < (b2 : Int) := by omega
           have HJ := Aside0.mk (And.intro hj (And.intro hgj (And.intro hjt hj1)))
           have HLN := Aside0.mk (show ((pre2 ++ (rowQ lam now bef i j).map qS).length + 1) * 16 ≤ 140737488355328 by
            rw [List.length_append, List.length_map, rowQ_length, HPRE2.out, flat_length d _ (fun k hk => by
             rw [rowsQ_length] at hk
             rw [List.getD_eq_getElem?_getD, List.getElem?_eq_getElem (by rw [rowsQ_length]; exact hk), Option.getD_some]
             simp [rowsQ, rowQ]), rowsQ_length]
            have : i * d ≤ 4 * 4 := Nat.mul_le_mul (by omega) (by omega)
            omega)
           clear him hi1m hm1 hib hk1 hk2 hk3 hk4 hkb hkc bim bi1m bib l1 l3 lc g1 g2 g3 g4 gc hrin hrp HCC hrr hqa hqb hqc hqe hqf hj hgj hi1 hM1 hM2 hM3 hM4 hM5 hj1 hd3 hm4
           go_upto_region 27 with (fail)
           go_cut [18] (fun v18 wc => ∃ g : Nat, v18 = .pointer (some ⟨g, 0, none⟩) ∧ Aside0 (wc.heap[g]? = some (.cells #[.int .i64 one.n, .int .i64 one.d] 25 (0, 0))) ∧ Aside0 (wr.heap.size ≤ g) ∧ Aside0 (Below wr.heap.size wr wc))
           case first =>
            have HBC := Aside0.mk (Below.refl wr.heap.size wr)
            go_region_held3 (fun W1 => W1.cell? (ad.add (k1 * 2)) = some (.int .i64 qa.n) ∧ W1.cell? ⟨(ad.add (k1 * 2)).block, (ad.add (k1 * 2)).off + 1, none⟩ = some (.int .i64 qa.d) ∧ W1.cell? (ad.add (k3 * 2)) = some (.int .i64 qe.n) ∧ W1.cell? ⟨(ad.add (k3 * 2)).block, (ad.add (k3 * 2)).off + 1, none⟩ = some (.int .i64 qe.d) ∧ Below wr.heap.size wr W1)
             (first | (refine held4 ?_ c1 c2 c5 c6; repeat (first | (with_reducible exact HBC.out) | (with_reducible refine below_drew ?_) | (with_reducible refine pw_below_drewN ?_ _) | (with_reducible refine below_alloc ?_ _) | (refine below_set ?_ (Nat.le_refl _)) | (refine below_set ?_ HGS.out) | (refine below_set ?_ HBC.out.size)))) (first | (go_at_call 27; refine (HC.out.s1 _).mono ?_; rintro e w5 ⟨rfl, hb⟩; have n_ := fun h => Aside0.mk (Below.trans (B := wr.heap.size) h (hb.mono (Below.size h))); have m_ := n_ (by repeat (first | (with_reducible exact HBC.out) | (with_reducible refine below_drew ?_) | (with_reducible refine pw_below_drewN ?_ _) | (with_reducible refine below_alloc ?_ _) | (refine below_set ?_ (Nat.le_refl _)) | (refine below_set ?_ HGS.out) | (refine below_set ?_ HBC.out.size))); (first | (have hgz : w5.heap[wr.heap.size]? = some (.cells #[.int .i64 0, .int .i64 0] 25 (0, 0)) := blk_below (by first | exact HGZ.out | exact blk_new wr.drew _) hb; have hgc0 := blk_cell hgz 0; have hgc1 := blk_cell hgz 1; have hgf0 := blk_frozen hgz 0; have hgf1 := blk_frozen hgz 1; have HGY := Aside0.mk hgz; clear hgz; (try clear HGZ); have HGZ := HGY; clear HGY) | (have hgz := blk_below HGZ.out hb; have hgc0 := blk_cell hgz 0; have hgc1 := blk_cell hgz 1; have hgf0 := blk_frozen hgz 0; have hgf1 := blk_frozen hgz 1; have HGY := Aside0.mk hgz; clear hgz; (try clear HGZ); have HGZ := HGY; clear HGY) | (have hgz := blk_below (blk_new _ _) hb; have HGS := Aside0.mk HBC.out.size; have hgc0 := blk_cell hgz 0; have hgc1 := blk_cell hgz 1; have hgf0 := blk_frozen hgz 0; have hgf1 := blk_frozen hgz 1; have HGY := Aside0.mk hgz; clear hgz; (try clear HGZ); have HGZ := HGY; clear HGY) | skip); clear n_ HBC hb; have HBC := m_; clear m_))
            all_goals
             go_wp2
             go_meet
             case rel =>
              first
               | exact ⟨_, rfl, ⟨blk_new_at rfl⟩, ⟨HBC.out.size⟩, ⟨by repeat (first | (with_reducible exact HBC.out) | (with_reducible refine below_drew ?_) | (with_reducible refine pw_below_drewN ?_ _) | (with_reducible refine below_alloc ?_ _) | (refine below_set ?_ (Nat.le_refl _)) | (refine below_set ?_ HGS.out) | (refine below_set ?_ HBC.out.size))⟩⟩
               | exact ⟨wr.heap.size, rfl, ⟨blk_put (blk_put HGZ.out 0 _ rfl) 1 _ rfl⟩, ⟨Nat.le_refl _⟩, ⟨by repeat (first | (with_reducible exact HBC.out) | (with_reducible refine below_drew ?_) | (with_reducible refine pw_below_drewN ?_ _) | (with_reducible refine below_alloc ?_ _) | (refine below_set ?_ (Nat.le_refl _)) | (refine below_set ?_ HGS.out) | (refine below_set ?_ HBC.out.size))⟩⟩
           case rest =>
            obtain ⟨g18, rfl, HG18, HL18, HB18⟩ := hcut
            obtain ⟨wA, rfl⟩ : ∃ x : World, x = wc := ⟨_, rfl⟩
            have d3 := pw_cell_below HB18.out c3
            have d4 := pw_cell_below HB18.out c4
            have d7 := pw_cell_below HB18.out c7
            have d8 := pw_cell_below HB18.out c8
            go_upto_region 28 with (fail)
            go_cut [19] (fun v19 wd => ∃ g : Nat, v19 = .pointer (some ⟨g, 0, none⟩) ∧ Aside0 (wd.heap[g]? = some (.cells #[.int .i64 bc.n, .int .i64 bc.d] 25 (0, 0))) ∧ Aside0 (wA.heap.size ≤ g) ∧ Aside0 (Below wA.heap.size wA wd))
            case first =>
             have HBC := Aside0.mk (Below.refl wA.heap.size wA)
             go_region_held3 (fun W1 => W1.cell? (ad.add (k4 * 2)) = some (.int .i64 qb.n) ∧ W1.cell? ⟨(ad.add (k4 * 2)).block, (ad.add (k4 * 2)).off + 1, none⟩ = some (.int .i64 qb.d) ∧ W1.cell? (ad.add (k2 * 2)) = some (.int .i64 qc.n) ∧ W1.cell? ⟨(ad.add (k2 * 2)).block, (ad.add (k2 * 2)).off + 1, none⟩ = some (.int .i64 qc.d) ∧ Below wA.heap.size wA W1)
              (first | (refine held4 ?_ d7 d8 d3 d4; repeat (first | (with_reducible exact HBC.out) | (with_reducible refine below_drew ?_) | (with_reducible refine pw_below_drewN ?_ _) | (with_reducible refine below_alloc ?_ _) | (refine below_set ?_ (Nat.le_refl _)) | (refine below_set ?_ HGS.out) | (refine below_set ?_ HBC.out.size)))) (first | (go_at_call 27; refine (HC.out.s2 _).mono ?_; rintro e w5 ⟨rfl, hb⟩; have n_ := fun h => Aside0.mk (Below.trans (B := wA.heap.size) h (hb.mono (Below.size h))); have m_ := n_ (by repeat (first | (with_reducible exact HBC.out) | (with_reducible refine below_drew ?_) | (with_reducible refine pw_below_drewN ?_ _) | (with_reducible refine below_alloc ?_ _) | (refine below_set ?_ (Nat.le_refl _)) | (refine below_set ?_ HGS.out) | (refine below_set ?_ HBC.out.size))); (first | (have hgz : w5.heap[wA.heap.size]? = some (.cells #[.int .i64 0, .int .i64 0] 25 (0, 0)) := blk_below (by first | exact HGZ.out | exact blk_new wA.drew _) hb; have hgc0 := blk_cell hgz 0; have hgc1 := blk_cell hgz 1; have hgf0 := blk_frozen hgz 0; have hgf1 := blk_frozen hgz 1; have HGY := Aside0.mk hgz; clear hgz; (try clear HGZ); have HGZ := HGY; clear HGY) | (have hgz := blk_below HGZ.out hb; have hgc0 := blk_cell hgz 0; have hgc1 := blk_cell hgz 1; have hgf0 := blk_frozen hgz 0; have hgf1 := blk_frozen hgz 1; have HGY := Aside0.mk hgz; clear hgz; (try clear HGZ); have HGZ := HGY; clear HGY) | (have hgz := blk_below (blk_new _ _) hb; have HGS := Aside0.mk HBC.out.size; have hgc0 := blk_cell hgz 0; have hgc1 := blk_cell hgz 1; have hgf0 := blk_frozen hgz 0; have hgf1 := blk_frozen hgz 1; have HGY := Aside0.mk hgz; clear hgz; (try clear HGZ); have HGZ := HGY; clear HGY) | skip); clear n_ HBC hb; have HBC := m_; clear m_))
             all_goals
              go_wp2
              go_meet
              case rel =>
               first
                | exact ⟨_, rfl, ⟨blk_new_at rfl⟩, ⟨HBC.out.size⟩, ⟨by repeat (first | (with_reducible exact HBC.out) | (with_reducible refine below_drew ?_) | (with_reducible refine pw_below_drewN ?_ _) | (with_reducible refine below_alloc ?_ _) | (refine below_set ?_ (Nat.le_refl _)) | (refine below_set ?_ HGS.out) | (refine below_set ?_ HBC.out.size))⟩⟩
                | exact ⟨wA.heap.size, rfl, ⟨blk_put (blk_put HGZ.out 0 _ rfl) 1 _ rfl⟩, ⟨Nat.le_refl _⟩, ⟨by repeat (first | (with_reducible exact HBC.out) | (with_reducible refine below_drew ?_) | (with_reducible refine pw_below_drewN ?_ _) | (with_reducible refine below_alloc ?_ _) | (refine below_set ?_ (Nat.le_refl _)) | (refine below_set ?_ HGS.out) | (refine below_set ?_ HBC.out.size))⟩⟩
            case rest =>
             obtain ⟨g19, rfl, HG19, HL19, HB19⟩ := hcut
             obtain ⟨wB, rfl⟩ : ∃ x : World, x = wc := ⟨_, rfl⟩
             have HG18' := Aside0.mk (blk_below HG18.out HB19.out)
             have f1 := blk_cell HG18'.out 0
             have f2 := blk_cell HG18'.out 1
             have f3 := blk_cell HG19.out 0
             have f4 := blk_cell HG19.out 1
             go_upto_region 29 with (fail)
             go_cut [20] (fun v20 we => ∃ g : Nat, v20 = .pointer (some ⟨g, 0, none⟩) ∧ Aside0 (we.heap[g]? = some (.cells #[.int .i64 sm.n, .int .i64 sm.d] 25 (0, 0))) ∧ Aside0 (wB.heap.size ≤ g) ∧ Aside0 (Below wB.heap.size wB we))
             case first =>
              have HBC := Aside0.mk (Below.refl wB.heap.size wB)
              go_region_held3 (fun W1 => W1.cell? ⟨g18, 0, none⟩ = some (.int .i64 one.n) ∧ W1.cell? ⟨g18, 1, none⟩ = some (.int .i64 one.d) ∧ W1.cell? ⟨g19, 0, none⟩ = some (.int .i64 bc.n) ∧ W1.cell? ⟨g19, 1, none⟩ = some (.int .i64 bc.d) ∧ Below wB.heap.size wB W1)
               (first | (refine held4 ?_ f1 f2 f3 f4; repeat (first | (with_reducible exact HBC.out) | (with_reducible refine below_drew ?_) | (with_reducible refine pw_below_drewN ?_ _) | (with_reducible refine below_alloc ?_ _) | (refine below_set ?_ (Nat.le_refl _)) | (refine below_set ?_ HGS.out) | (refine below_set ?_ HBC.out.size)))) (first | (go_at_call 28; refine (HC.out.s3 _).mono ?_; rintro e w5 ⟨rfl, hb⟩; have n_ := fun h => Aside0.mk (Below.trans (B := wB.heap.size) h (hb.mono (Below.size h))); have m_ := n_ (by repeat (first | (with_reducible exact HBC.out) | (with_reducible refine below_drew ?_) | (with_reducible refine pw_below_drewN ?_ _) | (with_reducible refine below_alloc ?_ _) | (refine below_set ?_ (Nat.le_refl _)) | (refine below_set ?_ HGS.out) | (refine below_set ?_ HBC.out.size))); (first | (have hgz : w5.heap[wB.heap.size]? = some (.cells #[.int .i64 0, .int .i64 0] 25 (0, 0)) := blk_below (by first | exact HGZ.out | exact blk_new wB.drew _) hb; have hgc0 := blk_cell hgz 0; have hgc1 := blk_cell hgz 1; have hgf0 := blk_frozen hgz 0; have hgf1 := blk_frozen hgz 1; have HGY := Aside0.mk hgz; clear hgz; (try clear HGZ); have HGZ := HGY; clear HGY) | (have hgz := blk_below HGZ.out hb; have hgc0 := blk_cell hgz 0; have hgc1 := blk_cell hgz 1; have hgf0 := blk_frozen hgz 0; have hgf1 := blk_frozen hgz 1; have HGY := Aside0.mk hgz; clear hgz; (try clear HGZ); have HGZ := HGY; clear HGY) | (have hgz := blk_below (blk_new _ _) hb; have HGS := Aside0.mk HBC.out.size; have hgc0 := blk_cell hgz 0; have hgc1 := blk_cell hgz 1; have hgf0 := blk_frozen hgz 0; have hgf1 := blk_frozen hgz 1; have HGY := Aside0.mk hgz; clear hgz; (try clear HGZ); have HGZ := HGY; clear HGY) | skip); clear n_ HBC hb; have HBC := m_; clear m_) | (go_at_call 27; refine (HC.out.s4 _).mono ?_; rintro e w5 ⟨rfl, hb⟩; have n_ := fun h => Aside0.mk (Below.trans (B := wB.heap.size) h (hb.mono (Below.size h))); have m_ := n_ (by repeat (first | (with_reducible exact HBC.out) | (with_reducible refine below_drew ?_) | (with_reducible refine pw_below_drewN ?_ _) | (with_reducible refine below_alloc ?_ _) | (refine below_set ?_ (Nat.le_refl _)) | (refine below_set ?_ HGS.out) | (refine below_set ?_ HBC.out.size))); (first | (have hgz : w5.heap[wB.heap.size]? = some (.cells #[.int .i64 0, .int .i64 0] 25 (0, 0)) := blk_below (by first | exact HGZ.out | exact blk_new wB.drew _) hb; have hgc0 := blk_cell hgz 0; have hgc1 := blk_cell hgz 1; have hgf0 := blk_frozen hgz 0; have hgf1 := blk_frozen hgz 1; have HGY := Aside0.mk hgz; clear hgz; (try clear HGZ); have HGZ := HGY; clear HGY) | (have hgz := blk_below HGZ.out hb; have hgc0 := blk_cell hgz 0; have hgc1 := blk_cell hgz 1; have hgf0 := blk_frozen hgz 0; have hgf1 := blk_frozen hgz 1; have HGY := Aside0.mk hgz; clear hgz; (try clear HGZ); have HGZ := HGY; clear HGY) | (have hgz := blk_below (blk_new _ _) hb; have HGS := Aside0.mk HBC.out.size; have hgc0 := blk_cell hgz 0; have hgc1 := blk_cell hgz 1; have hgf0 := blk_frozen hgz 0; have hgf1 := blk_frozen hgz 1; have HGY := Aside0.mk hgz; clear hgz; (try clear HGZ); have HGZ := HGY; clear HGY) | skip); clear n_ HBC hb; have HBC := m_; clear m_) | (go_at_call 26; refine (HC.out.s5 _).mono ?_; rintro e w5 ⟨rfl, hb⟩; have n_ := fun h => Aside0.mk (Below.trans (B := wB.heap.size) h (hb.mono (Below.size h))); have m_ := n_ (by repeat (first | (with_reducible exact HBC.out) | (with_reducible refine below_drew ?_) | (with_reducible refine pw_below_drewN ?_ _) | (with_reducible refine below_alloc ?_ _) | (refine below_set ?_ (Nat.le_refl _)) | (refine below_set ?_ HGS.out) | (refine below_set ?_ HBC.out.size))); (first | (have hgz : w5.heap[wB.heap.size]? = some (.cells #[.int .i64 0, .int .i64 0] 25 (0, 0)) := blk_below (by first | exact HGZ.out | exact blk_new wB.drew _) hb; have hgc0 := blk_cell hgz 0; have hgc1 := blk_cell hgz 1; have hgf0 := blk_frozen hgz 0; have hgf1 := blk_frozen hgz 1; have HGY := Aside0.mk hgz; clear hgz; (try clear HGZ); have HGZ := HGY; clear HGY) | (have hgz := blk_below HGZ.out hb; have hgc0 := blk_cell hgz 0; have hgc1 := blk_cell hgz 1; have hgf0 := blk_frozen hgz 0; have hgf1 := blk_frozen hgz 1; have HGY := Aside0.mk hgz; clear hgz; (try clear HGZ); have HGZ := HGY; clear HGY) | (have hgz := blk_below (blk_new _ _) hb; have HGS := Aside0.mk HBC.out.size; have hgc0 := blk_cell hgz 0; have hgc1 := blk_cell hgz 1; have hgf0 := blk_frozen hgz 0; have hgf1 := blk_frozen hgz 1; have HGY := Aside0.mk hgz; clear hgz; (try clear HGZ); have HGZ := HGY; clear HGY) | skip); clear n_ HBC hb; have HBC := m_; clear m_))
              all_goals
               go_wp2
               go_meet
               case rel =>
                first
                 | exact ⟨_, rfl, ⟨blk_new_at rfl⟩, ⟨HBC.out.size⟩, ⟨by repeat (first | (with_reducible exact HBC.out) | (with_reducible refine below_drew ?_) | (with_reducible refine pw_below_drewN ?_ _) | (with_reducible refine below_alloc ?_ _) | (refine below_set ?_ (Nat.le_refl _)) | (refine below_set ?_ HGS.out) | (refine below_set ?_ HBC.out.size))⟩⟩
                 | exact ⟨wB.heap.size, rfl, ⟨blk_put (blk_put HGZ.out 0 _ rfl) 1 _ rfl⟩, ⟨Nat.le_refl _⟩, ⟨by repeat (first | (with_reducible exact HBC.out) | (with_reducible refine below_drew ?_) | (with_reducible refine pw_below_drewN ?_ _) | (with_reducible refine below_alloc ?_ _) | (refine below_set ?_ (Nat.le_refl _)) | (refine below_set ?_ HGS.out) | (refine below_set ?_ HBC.out.size))⟩⟩
                 | exact ⟨_, rfl, ⟨blk_put (blk_put HGZ.out 0 _ rfl) 1 _ rfl⟩, ⟨HGS.out⟩, ⟨below_set (below_set (by repeat (first | (with_reducible exact HBC.out) | (with_reducible refine below_drew ?_) | (with_reducible refine pw_below_drewN ?_ _) | (with_reducible refine below_alloc ?_ _) | (refine below_set ?_ (Nat.le_refl _)) | (refine below_set ?_ HGS.out) | (refine below_set ?_ HBC.out.size))) HGS.out) HGS.out⟩⟩
             case rest =>
              obtain ⟨g20, rfl, HG20, HL20, HB20⟩ := hcut
              obtain ⟨wC, rfl⟩ : ∃ x : World, x = wc := ⟨_, rfl⟩
              have HWC := Aside0.mk (below_step (below_step HB18.out HB19.out) HB20.out)
              have e9 := pw_cell_below HWC.out c9
              have e10 := pw_cell_below HWC.out c10
              obtain ⟨oF, hoF⟩ : ∃ o, o = Obj.cells #[.int .i64 qf.n, .int .i64 qf.d] 25 (0, 0) := ⟨_, rfl⟩
              have HBF := Aside0.mk (show Below wC.heap.size wC (wC.alloc (.cells #[.int .i64 qf.n, .int .i64 qf.d] 25)) from below_alloc (Below.refl _ _) _)
              have q1 := pw_cell_below HBF.out (blk_cell HG20.out 0)
              have q2 := pw_cell_below HBF.out (blk_cell HG20.out 1)
              have HNC := Aside0.mk (Kd.R_below HNX.out (below_step HWC.out HBF.out))
              have HBWC := Aside0.mk (below_step HB.out (below_step HWC.out HBF.out))
              clear HNX HB c1 c2 c3 c4 c5 c6 c7 c8 c9 c10 d3 d4 d7 d8 f1 f2 f3 f4 HG18 HG18' HG19 HG20 HL18 HL19 HL20 hoF
              go_wp2_with (first
               | (go_at_call 27; refine (HC.out.s6 _).mono ?_; rintro e w9 ⟨rfl, hb⟩; have HN9 := Aside0.mk (Kd.R_below HNC.out hb); have HB9 := Aside0.mk (below_step HBWC.out hb); clear hb HNC HBWC)
               | ((with_reducible refine gate_builtin (b := .append) (xs := #[.tmp 130, .tmp 138]) rfl ?_); at_builtin; refine Kd.R_append k25 (w0 := wo) wo.heap.size rfl (.tmp 130) (.tmp 138) 53 25 (.agg #[.int .i64 0, .int .i64 0]) 16 rfl Try.underlying53 info_ratio rfl (by decide) (by omega) u15 (pre2 ++ (rowQ lam now bef i j).map qS) (qS r) [.int .i64 r.n, .int .i64 r.d] (fun _ => True) (fun _ => False) rfl rfl ?aP ?aF ?aO ?aH ?aB ?aS ?aL ?_; (case aP => exact k25_mkM _ _ _ _); (case aF => exact fun _ hk => hk.elim); (case aO => exact fun _ _ => trivial); (case aH => exact HN9.out); (case aB => exact HB9.out); (case aS => exact HB9.out.size); (case aL => exact HLN.out); intro v8 w8 ho hb hg hat; rw [← HRW.out] at ho; have HR8 := Aside0.mk ho; have HB8 := Aside0.mk hb; clear ho hb hg hat))
              go_roundg (d - (j + 1))
              case measure => have := HJ.out; omega
              case rel => exact ⟨j + 1, by have := HJ.out; omega, Nat.le_refl _, by rw [HJ.out.2.2.2], HR8, HB8⟩
          ·have hjz : ¬ (j1 : Int) < (m : Int) := by omega
           have HN2 := Aside0.mk (show Kd.R k25 25 wr wo.heap.size (fun _ => True) u15 (flat (rowsQ lam now bef d (i + 1))) by
            have h := HNX.out
            rw [show j = d by omega, HPRE2.out] at h
            rw [rowsQ_succ, flat_append]
            rw [show flat [rowQ lam now bef i d] = (rowQ lam now bef i d).map qS by simp [flat]]
            exact h)
           clear hj hgj hjt hM1 hM2 hM3 hM4 hM5 hi1 hd3 hj1
           go_wp2
           go_roundg (d - (i + 1))
           case measure => have := HI.out; omega
           case rel => exact ⟨i + 1, by have := HI.out; omega, Nat.le_refl _, by rw [HI.out.2.2.2.1], HN2, HB⟩
        ·have hz : ¬ (i1 : Int) < (m : Int) := by have := HM.out.1; omega
         obtain ⟨hM1, hM2, hM3, hM4, hM5⟩ := HM.out
         have hd0 := HDG.out.1
         have hdg := HDG.out.2
         obtain ⟨e, hde⟩ : ∃ e, d = e + 1 := ⟨d - 1, by omega⟩
         have hnx : flat (rowsQ lam now bef d i) = flat (nextQ lam d now bef) := by rw [show i = d by omega]; rfl
         have hsq := next_Sq (lam := lam) (m := d) (s := l0.length - m) hlam (by omega) (by rw [← hM1]; exact HSN.out) (by rw [show d + 2 = m + 1 by omega]; exact HSB.out)
         obtain ⟨nx, hnxe⟩ : ∃ x, x = nextQ lam d now bef := ⟨_, rfl⟩
         rw [← hnxe] at hnx hsq
         have HN2 := Aside0.mk (show Kd.R k25 25 wr wo.heap.size (fun _ => True) u15 (flat nx) by rw [← hnx]; exact HNX.out)
         obtain ⟨Ax, cx, ex⟩ := Kd.R_slice HN2.out
         subst ex
         have hlx : (flat nx).length = d * d := hsq.flat_len
         obtain ⟨dd, hdd⟩ : ∃ x, x = d * d := ⟨_, rfl⟩
         have hcx := (Kd.R_reads' HN2.out).2.1
         have HFX2 := Aside0.mk (Kd.F_mono (ok' := fun k => wo.heap.size ≤ k ∧ k < wr.heap.size) (Kd.R_F (Kd.R_bound HN2.out)) (fun k hk => ⟨hk.2.1, hk.2.2.1⟩))
         rw [hlx, ← hdd] at HFX2 hcx
         rw [hlx, ← hdd]
         have HCX := Aside0.mk hcx
         have HOB := Aside0.mk (show ∀ k, some k = u13.ownBlock → k < wo.heap.size from fun k e => Kd.N_lt HO.out k e.symm)
         have HOW := Aside0.mk (Kd.N_below HO.out HB.out)
         have HFK := Aside0.mk (show Kd.FK (Kd.slice 25 k25) wr (fun k => wo.heap.size ≤ k ∧ k < wr.heap.size) (flat nx) [.slice Ax dd cx] by
          have h := Kd.FK_slice_mk (e := 25) (c := cx) (l := flat nx) (by rw [hlx, ← hdd]; exact hcx) (by rw [hlx, ← hdd]; exact HFX2.out)
          rw [hlx, ← hdd] at h
          exact h)
         have HWW := Aside0.mk (And.intro HBQ.out.size HB.out.size)
         have HNW := Aside0.mk (Kd.F_below HFN.out HB.out)
         have HBW3 := Aside0.mk (below_step HBQ.out HB.out)
         have HLEN := Aside0.mk (show (((pre ++ [now]).map flat).length + 1) * 24 ≤ 140737488355328 by
          have h := congrArg List.length HALL2.out
          have ha : ∀ (d : Nat) (b n : List (List Q)), (stepsQ lam d b n).length = d + 1 := by
           intro d; induction d with
           | zero => intro b n; rfl
           | succ d ih => intro b n; rw [stepsQ, List.length_cons, ih]
          have h2 := congrArg List.length HALL.out
          rw [ha] at h2
          rw [List.length_append, ha] at h
          rw [List.length_map, List.length_append, List.length_singleton]
          omega)
         have hwm : IntKind.i64.wrap ((m : Int) - 1) = (d : Int) := by rw [i64_w, hM1]; exact wrapP (d + 1) (by omega) (by omega)
         have HSX := Aside0.mk hsq
         have HE := Aside0.mk (And.intro hde (And.intro hdd (And.intro hnxe hdg)))
         have hlt9 := HM.out
         clear hlt9 hi hgi hlt hM1 hM2 hM3 hM4 hM5 hd0 hdg hde hnx hsq hnxe hlx hdd hcx hi1 hd3 HNX
         go_wp2_with ((with_reducible refine gate_builtin (b := .append) (xs := #[.tmp 142, .tmp 144]) rfl ?_); at_builtin; refine Kd.N_append (Kd.slice 25 k25) (w0 := w) w.heap.size rfl (.tmp 142) (.tmp 144) 32 53 (.slice none 0 0) 24 rfl Try.underlying32 info_rrow rfl (by decide) (by omega) u13 ((pre ++ [now]).map flat) (flat nx) [.slice Ax dd cx] (fun k => w.heap.size ≤ k) (fun k => wo.heap.size ≤ k ∧ k < wr.heap.size) rfl rfl ?aP ?aF ?aO ?aH ?aB ?aS ?aL ?_; (case aP => exact HFK.out); (case aF => exact fun k hk => ⟨Nat.le_trans HWW.out.1 hk.1, fun e => by have := HOB.out k e; omega⟩); (case aO => exact fun k hk => Nat.le_trans (Nat.le_trans HWW.out.1 HWW.out.2) hk); (case aH => exact HOW.out); (case aB => exact HBW3.out); (case aS => exact HBW3.out.size); (case aL => exact HLEN.out); intro v8 w8 ho hb hg hat; have HR8 := Aside0.mk ho; have HB8 := Aside0.mk hb; have HG8 := Aside0.mk hg; have HA8 := Aside0.mk hat; clear ho hb hg hat)
         go_roundg e
         case measure => have := HE.out; omega
         case rel =>
          obtain ⟨hde, hdd, hnxe, hdg⟩ := HE.out
          obtain ⟨hM1, hM2, hM3, hM4, hM5⟩ := HM.out
          refine ⟨e, d, dd, mm, now, nx, pre ++ [now], An, cn, Ax, cx, by go_num, rfl, rfl, Nat.le_refl _, ⟨hde, hdd, by rw [hM2, hM1], by omega, ?_⟩, ?_, ?_, ?_, ?_, ?_, ?_, HB8⟩
          ·exact HCX.out
          ·rw [show l0.length - d = l0.length - m + 1 by omega, ← hM1]; exact HSN
          ·rw [show l0.length - d + 1 = l0.length - m + 2 by omega]; exact HSX
          ·refine ⟨?_⟩
           have h := HALL2.out
           rw [hde, stepsQ, ← hde, ← hnxe] at h
           rw [List.append_assoc]
           exact h
          ·refine ⟨Kd.F_mono (Kd.F_grown (Kd.F_bound HNW.out) HG8.out (fun k hk => hk.1.2)) (fun k hk => ⟨hk.1.1, fun e => ?_⟩)⟩
           rcases HA8.out with h | ⟨b, h, hb⟩
           ·rw [h] at e; exact hk.1.2 e
           ·rw [h] at e; injection e with e; have := hk.2; omega
          ·refine ⟨Kd.F_mono (Kd.F_grown HFX2.out HG8.out (fun k hk e => by have := HOB.out k e; have := hk.1; omega)) (fun k hk => ⟨Nat.le_trans HWW.out.1 hk.1, fun e => ?_⟩)⟩
           rcases HA8.out with h | ⟨b, h, hb⟩
           ·rw [h] at e; have := HOB.out k e; have := hk.1; omega
           ·rw [h] at e; injection e with e; have := hk.2; omega
          ·refine ⟨?_⟩
           rw [List.map_append (l₂ := [nx])]
           exact HR8.out
      ·have hmz : ¬ (m : Int) > 1 := by have := HM.out.1; omega
       have hd0 : d = 0 := by omega
       subst hd0
       have HFIN := Aside0.mk (show pre ++ [now] = ALL from HALL2.out)
       go_wp2
       go_ret
       refine ⟨_, rfl, ?_, HBQ.out⟩
       rw [← HALL.out, ← HFIN.out]
       exact HO.out
end Go.Proofs.Ytkiloimggmpggaa.L
