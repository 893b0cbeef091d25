/- The program's ParseDescending. -/
import Derived.Test.YtojohgjjlljbiaaDoorHsp
import Derived.Test.YtojohgjjlljbiaaDoorRw
import Derived.Test.YtojohgjjlljbiaaDoorPx13
import Derived.Lib.ConvBytes
namespace Go.Proofs.YtojohgjjlljbiaaDoor.L
open Go.RowKit Go.Proofs.YtojohgjjlljbiaaDoor Go.Proofs.YtojohgjjlljbiaaDoor.P Go.Proofs.YtojohgjjlljbiaaDoorW.PrintWords Go.Proofs.YtojohgjjlljbiaaDoorW.PrintLast Go.Proofs.YtojohgjjlljbiaaDoorW.PrintMore
set_option linter.unusedVariables false
set_option linter.unusedSimpArgs false

/-- The row of a piece. -/
def pdRow (s : ByteArray) : List Int := s.data.toList.map (fun b => (b.toNat : Int) - 48)
theorem S_empty {α : Type} {d : Kd α} {e : Nat} {W : World} {B g : Nat} {ok : Nat → Prop} (h : W.heap[g]? = some (.cells #[] e (0, 0))) (hB : B ≤ g) (hok : ok g) : Kd.S d e W B ok (.slice (some ⟨g, 0, none⟩) 0 0) [] := by
  refine ⟨fun _ => 0, fun k hk => ?_, [], ⟨by simp, .inr ⟨g, 0, #[], rfl, hB, h, Nat.le_refl _, by unfold maxLen; omega, by simp, by simp⟩⟩, Reps.none _ _⟩
  have : g = k := by simpa [Value.ownBlock] using hk
  exact this ▸ hok
theorem cell_low {w W : World} {g j : Nat} {v : Value} (h : w.cell? ⟨g, j, none⟩ = some v) (he : W.heap[g]? = w.heap[g]?) : W.cell? ⟨g, j, none⟩ = some v := by
  rw [← h]; unfold World.cell?; simp only [he]
theorem below_bytes (w : World) (e : TypeId) (s : ByteArray) : Below w.heap.size w (Lib.bytesWorld w e s) := by
  refine ⟨?_, ?_, ?_, by rw [Lib.bytesWorld_size]; omega, fun k hk => Lib.bytesWorld_at_old w e s k hk⟩
  · simp [Lib.bytesWorld, World.freeze, World.alloc, World.drew, -World.alloc_eq, -World.drew_eq]
  · simp [Lib.bytesWorld, World.freeze, World.alloc, World.drew, -World.alloc_eq, -World.drew_eq]
  · simp [Lib.bytesWorld, World.freeze, World.alloc, World.drew, -World.alloc_eq, -World.drew_eq]
set_option maxHeartbeats 4000000 in
set_option maxRecDepth 100000 in
theorem impl_ParseDescending.callsG (s : ByteArray) (L : List ByteArray) (b : Bool) (k : Nat) (hs : (s.toList == ([45] : List UInt8)) = false) (hL : strings_Split.f s ⟨#[47]⟩ = some L) (hlen : L.length ≤ 1048577) (hrow : ∀ x ∈ L, x.size ≤ 1048576) (hd : impl_isDescending.f k (L.map pdRow) 6 = some b) (w : World) (hm : HasMax w) :
    Calls Tryd.prog 5 #[.string s] w fun e w' => ∃ v : Value, e = .returned (.tuple #[v, .bool b]) ∧ Kd.S (Kd.slice 3 (Kd.int .i64)) 30 w' w.heap.size (fun _ => True) v (if b = true then L.map pdRow else []) ∧ Below w.heap.size w w' := by
  have HSP := Aside0.mk (fun W (hb : Below w.heap.size w W) => strings_Split.calls s ⟨#[47]⟩ L W hL (hm.below hb))
  have hcv := fun (W : World) (x : ByteArray) => Lib.run_convert_string_bytes (P := Tryd.prog) W 9 34 5 x Tryd.underlying9 Tryd.underlying34 Tryd.underlying5
  have HB0 := Aside0.mk (Below.refl w.heap.size w)
  clear hL hm
  go_enter Tryd.func5, Tryd.ntmps5
  go_wp2_with (go_at_call 12; obtain ⟨w1, hw1⟩ : ∃ w1, w1 = w.alloc (.cells #[] 30) := ⟨_, rfl⟩; rw [← hw1]; have hb1 : Below w.heap.size w w1 := (by rw [hw1]; exact below_alloc (Below.refl _ _) _); have hblk : w1.heap[w.heap.size]? = some (.cells #[] 30 (0, 0)) := (by rw [hw1]; exact blk_new w _); have SZ1 := Aside0.mk (show w1.heap.size = w.heap.size + 1 by rw [hw1]; simp); have HBL := Aside0.mk hblk; have HB1 := Aside0.mk hb1; refine (HSP.out _ HB1.out).mono ?_; clear hw1 hb1 hblk; rintro e w2 ⟨v2, rfl, hR2, hb2⟩; obtain ⟨AL, cL, rfl⟩ := Kd.R_slice hR2; have HLF := Aside0.mk (Kd.F_mono (ok' := fun k => w1.heap.size ≤ k ∧ k < w2.heap.size) (Kd.F_bound (Kd.R_F (Kd.R_tight rfl hR2))) (fun k hk => ⟨Kd.R_base hR2 k (by have := hk.1; first | exact this | exact this.symm | exact this.1), hk.2⟩)); have HB2 := Aside0.mk (below_step HB1.out hb2); have HBL2 := Aside0.mk (hb2.block _ (by have := SZ1.out; omega) |>.trans HBL.out); clear hR2 hb2)
  go_loopg [4, 17] L.length (fun gg s4 s17 wr => ∃ i : Nat, i ≤ L.length ∧ L.length - i ≤ gg ∧ s17 = .int .i64 i ∧ Aside0 (Kd.S (Kd.slice 3 (Kd.int .i64)) 30 wr w.heap.size (fun k => k < w1.heap.size ∨ w2.heap.size ≤ k) s4 ((L.take i).map pdRow)) ∧ Aside0 (Kd.F Kd.string wr (fun k => w1.heap.size ≤ k ∧ k < w2.heap.size) AL L.length L) ∧ Aside0 (Below w.heap.size w wr ∧ w2.heap.size ≤ wr.heap.size))
  case atStart => exact ⟨0, Nat.zero_le _, Nat.le_refl _, rfl, ⟨by rw [List.take_zero]; exact S_empty HBL2.out (Nat.le_refl _) (.inl (by have := SZ1.out; omega))⟩, HLF, ⟨HB2.out, Nat.le_refl _⟩⟩
  case round =>
    clear HLF HB2 HBL2
    obtain ⟨i, hi, hg, rfl, HO, HLF, HB⟩ := hrel
    by_cases hlt : i < L.length
    · have hz : (i : Int) < (L.length : Int) := by omega
      obtain ⟨ad, cc, hA, hcl1, hFK, hcell, _⟩ := Kd.F_get HLF.out ByteArray.empty (i : Int) (by omega) (by omega)
      subst hA
      obtain ⟨x, hx⟩ : ∃ x, x = L.getD i ByteArray.empty := ⟨_, rfl⟩
      rw [Int.toNat_natCast, ← hx] at hFK
      have hc0 : cc = [.string x] := Kd.FK_now hFK
      subst hc0
      have hy := hcell 0 _ rfl
      rw [Int.toNat_natCast, show Kd.string.sz = 1 from rfl, Nat.mul_one, Nat.add_zero] at hy
      have hxs : x.size ≤ 1048576 := hrow x (by rw [hx, List.getD_eq_getElem?_getD, List.getElem?_eq_getElem hlt]; exact List.getElem_mem hlt)
      have HX := Aside0.mk (show (L.take (i + 1)).map pdRow = (L.take i).map pdRow ++ [pdRow x] by rw [List.take_succ_eq_append_getElem hlt, List.map_append, hx, List.getD_eq_getElem?_getD, List.getElem?_eq_getElem hlt]; rfl)
      clear hcell hcl1 hFK hx
      obtain ⟨wo, hwo⟩ : ∃ wo : World, wo = wr := ⟨_, rfl⟩
      subst hwo
      go_wp2
      obtain ⟨wb, hwb⟩ : ∃ wb, wb = Lib.bytesWorld (wo.alloc (.cells #[] 3)) 5 x := ⟨_, rfl⟩
      have hbb : Below wo.heap.size wo wb := by
        rw [hwb]
        have h1 : Below wo.heap.size wo (wo.alloc (.cells #[] 3)) := below_alloc (Below.refl _ _) _
        exact below_step h1 (below_bytes _ _ _)
      have hrb : wb.heap[wo.heap.size]? = some (.cells #[] 3 (0, 0)) := by rw [hwb, Lib.bytesWorld_at_old _ _ _ _ (by simp)]; exact blk_new wo _
      have HCB := Aside0.mk (fun (j : Nat) (hj : j < x.size) => show wb.cell? ⟨wo.heap.size + 1, j, none⟩ = some (.int .u8 (x.data.toList.getD j 0).toNat) by
        rw [hwb]; have := Lib.bytesWorld_cell (wo.alloc (.cells #[] 3)) 5 x j hj; simpa using this)
      have HRW := Aside0.mk (show Kd.R (Kd.int .i64) 3 wb wo.heap.size (fun k => k ≠ wo.heap.size + 1) (.slice (some ⟨wo.heap.size, 0, none⟩) 0 0) [] from Kd.S_R (S_empty (d := Kd.int .i64) hrb (Nat.le_refl _) (by omega)))
      have HBB := Aside0.mk hbb
      have SZB := Aside0.mk (show wb.heap.size = wo.heap.size + 2 by rw [hwb, Lib.bytesWorld_size]; simp)
      rw [← hwb]
      clear hwb hbb hrb hy
      go_loopg [7, 25] x.size (fun gg s7 s25 wq => ∃ j : Nat, j ≤ x.size ∧ x.size - j ≤ gg ∧ s25 = .int .i64 j ∧ Aside0 (Kd.R (Kd.int .i64) 3 wq wo.heap.size (fun k => k ≠ wo.heap.size + 1) s7 ((pdRow x).take j)) ∧ Aside0 (wq.heap[wo.heap.size + 1]? = wb.heap[wo.heap.size + 1]?) ∧ Aside0 (Below wo.heap.size wo wq ∧ wo.heap.size + 2 ≤ wq.heap.size))
      case atStart => exact ⟨0, Nat.zero_le _, Nat.le_refl _, rfl, HRW, ⟨rfl⟩, ⟨HBB.out, by have := SZB.out; omega⟩⟩
      case round =>
        clear HRW
        obtain ⟨j, hj, hgj, rfl, HR, HE, HQ⟩ := hrel
        by_cases hjt : j < x.size
        · have hjz : (j : Int) < (x.size : Int) := by omega
          have hz1 := cell_low (HCB.out j hjt) HE.out
          have hjd : j < x.data.size := hjt
          have HST := Aside0.mk (show (pdRow x).take (j + 1) = (pdRow x).take j ++ [wrap64 (wrap64 ((x.data[j]).toNat : Int) - 48)] by
            have hl : j < (pdRow x).length := by unfold pdRow; simpa using hjd
            rw [List.take_succ_eq_append_getElem hl]
            congr 2
            have hb : (x.data[j]).toNat < 256 := UInt8.toNat_lt _
            rw [show wrap64 ((x.data[j]).toNat : Int) = ((x.data[j]).toNat : Int) by unfold wrap64; omega, show wrap64 (((x.data[j]).toNat : Int) - 48) = ((x.data[j]).toNat : Int) - 48 by unfold wrap64; omega]
            simp [pdRow])
          have HTL := Aside0.mk (show ((pdRow x).take j).length ≤ 1048576 by rw [List.length_take]; omega)
          have HJ := Aside0.mk (And.intro hj hgj)
          go_wp2_with ((with_reducible refine gate_builtin (b := .append) (xs := #[.tmp 29, .tmp 33]) rfl ?_); at_builtin; refine Kd.R_append (Kd.int .i64) (w0 := wo) wo.heap.size rfl (.tmp 29) (.tmp 33) 30 3 (.int .i64 0) 8 rfl Tryd.underlying30 info_ints rfl (by decide) (by omega) u7 ((pdRow x).take j) (wrap64 (wrap64 ((x.data[j]).toNat : Int) - 48)) [.int .i64 (wrap64 (wrap64 ((x.data[j]).toNat : Int) - 48))] (fun k => k ≠ wo.heap.size + 1) (fun _ => False) rfl rfl ?aP (fun _ hk => hk.elim) ?aF ?aO ?aB ?aS ?aL ?_; (case aP => exact rfl); (case aB => exact HQ.out.1); (case aF => exact (fun q hq => by have := HQ.out.2; omega)); (case aO => exact HR.out); (case aS => exact HQ.out.1.size); (case aL => have := HTL.out; omega); intro v8 w8 ho hb hg hat; rw [← HST.out] at ho; have HR8 := Aside0.mk ho; have HB8 := Aside0.mk hb; have HG8 := Aside0.mk hg; clear ho hb hg hat)
          go_roundg (x.size - (j + 1))
          case measure => omega
          case rel =>
            have hq2 := HQ.out.2
            exact ⟨j + 1, by omega, by omega, by go_num, HR8, ⟨(HG8.out.block (wo.heap.size + 1) (by omega) (fun e => HR.out.1 _ e.symm rfl)).trans HE.out⟩, ⟨HB8.out, Nat.le_trans hq2 HG8.out.size⟩⟩
        · have hjz : ¬ (j : Int) < (x.size : Int) := by omega
          have hje : j = x.size := by omega
          have HR2 := Aside0.mk (show Kd.R (Kd.int .i64) 3 wr wo.heap.size (fun k => k ≠ wo.heap.size + 1) u7 (pdRow x) by
            have h := HR.out
            rw [hje, List.take_of_length_le (by unfold pdRow; rw [List.length_map, Array.length_toList]; exact Nat.le_refl _)] at h
            exact h)
          obtain ⟨Ar, cr, eR⟩ := Kd.R_slice HR2.out
          subst eR
          have HO2 := Aside0.mk (Kd.S_below (Kd.S_bound HO.out) HQ.out.1)
          have HBR := Aside0.mk (below_step HB.out.1 HQ.out.1)
          have HOW := Aside0.mk (show ∀ q, some q = (Value.slice Ar (pdRow x).length cr).ownBlock → wo.heap.size ≤ q from fun q e => Kd.R_base HR2.out q e.symm)
          have HOT := Aside0.mk (show ∀ q, some q = u4.ownBlock → q < wo.heap.size from fun q e => Kd.S_lt HO.out q e.symm)
          have HLT := Aside0.mk (show (((L.take i).map pdRow).length + 1) * 24 ≤ 140737488355328 by rw [List.length_map, List.length_take]; omega)
          have HIJ := Aside0.mk (And.intro hi (And.intro hg hlt))
          have HL2 := Aside0.mk (Kd.F_below HLF.out HQ.out.1)
          have HBW := Aside0.mk HB.out.1.size
          obtain ⟨pre, hpre⟩ : ∃ pre, pre = (L.take i).map pdRow := ⟨_, rfl⟩
          rw [← hpre] at HO2 HLT HX
          have HW2 := Aside0.mk (show w2.heap.size ≤ wo.heap.size from HB.out.2)
          go_wp2_with ((with_reducible refine gate_builtin (b := .append) (xs := #[.tmp 36, .tmp 38]) rfl ?_); at_builtin; refine Kd.S_append (Kd.slice 3 (Kd.int .i64)) (w0 := w) w.heap.size rfl (.tmp 36) (.tmp 38) 22 30 (.slice none 0 0) 24 rfl Tryd.underlying22 info_rows rfl (by decide) (by omega) u4 pre (pdRow x) [.slice Ar (pdRow x).length cr] (fun k => k < w1.heap.size ∨ w2.heap.size ≤ k) (fun k_ => some k_ = (.slice Ar (pdRow x).length cr : Value).ownBlock) (by rfl) (by rfl) ?aP ?aK ?aF ?aO ?aB ?aS ?aL ?_; (case aP => exact Kd.M_row (Kd.R_mono (Kd.R_tight rfl (Kd.R_lower HR2.out HBW.out)) (fun _ h_ => h_))); (case aK => exact fun q hq => ⟨.inr (Nat.le_trans HW2.out (HOW.out q hq)), fun e => by have := HOW.out q hq; have := HOT.out q e; omega⟩); (case aB => exact HBR.out); (case aF => exact fun q hq => .inr (by have := HW2.out; have := HQ.out.1.size; omega)); (case aO => exact Kd.S_mono HO2.out (fun q hq => ⟨hq.1, fun e => by have := HOW.out q e; have := hq.2; omega⟩)); (case aS => exact HBR.out.size); (case aL => have := HLT.out; omega); intro v8 w8 ho hb hg8 hat; rw [← HX.out] at ho; have HR8 := Aside0.mk ho; have HB8 := Aside0.mk hb; have HG8 := Aside0.mk hg8; clear ho hb hg8 hat)
          go_roundg (L.length - (i + 1))
          case measure => omega
          case rel =>
            obtain ⟨hi1, hg1, hlt1⟩ := HIJ.out
            refine ⟨i + 1, by omega, by omega, by go_num, HR8, ⟨Kd.F_grown HL2.out HG8.out (fun q hq e => ?_)⟩, ⟨HB8.out, Nat.le_trans HW2.out (Nat.le_trans HQ.out.1.size HG8.out.size)⟩⟩
            have := (Kd.S_R HO.out).1 q e.symm
            omega
    · have hz : ¬ (i : Int) < (L.length : Int) := by omega
      have hie : i = L.length := by omega
      have HO2 := Aside0.mk (show Kd.S (Kd.slice 3 (Kd.int .i64)) 30 wr w.heap.size (fun _ => True) u4 (L.map pdRow) by
        have h := Kd.S_mono HO.out (fun _ _ => trivial)
        rw [hie, List.take_length] at h
        exact h)
      obtain ⟨TT, hTT⟩ : ∃ TT, TT = L.map pdRow := ⟨_, rfl⟩
      rw [← hTT] at HO2 hd
      have HTT := Aside0.mk hTT
      clear hTT
      obtain ⟨AO, cO, eO⟩ := Kd.S_slice HO2.out
      subst eO
      have HID := Aside0.mk (impl_isDescending.calls k AO cO TT 6 b wr (Kd.S_reads' HO2.out).2.2 (Kd.S_reads' HO2.out).2.1 hd)
      have HBZ := Aside0.mk HB.out.1
      cases b with
      | true =>
        go_wp2_with (go_at_call 13; refine HID.out.mono ?_; rintro e w5 ⟨rfl, hb⟩; have HB5 := Aside0.mk (below_step HBZ.out hb); have HO5 := Aside0.mk (Kd.S_below HO2.out hb); clear hb)
        go_ret2
        exact ⟨_, rfl, HTT.out ▸ HO5.out, HB5.out⟩
      | false =>
        go_wp2_with (go_at_call 13; refine HID.out.mono ?_; rintro e w5 ⟨rfl, hb⟩; have HB5 := Aside0.mk (below_step HBZ.out hb); clear hb)
        go_ret2
        exact ⟨_, rfl, Kd.S_nil _ _ _ _ _, HB5.out⟩
end Go.Proofs.YtojohgjjlljbiaaDoor.L
