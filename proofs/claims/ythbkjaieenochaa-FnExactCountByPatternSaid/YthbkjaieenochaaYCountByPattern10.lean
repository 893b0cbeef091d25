/- Texts of one chain, in build order. -/
import Derived.Test.YthbkjaieenochaaYCountByPattern9
namespace Go.Proofs.Ythbkjaieenochaa
open Go.RowKit Go.Proofs.Ythbkjaieenochaa.P Go.Proofs.YthbkjaieenochaaW.PrintWords Go.Proofs.YthbkjaieenochaaW.PrintLast Go.Proofs.YthbkjaieenochaaW.PrintMore
set_option linter.unusedVariables false
set_option linter.unusedSimpArgs false

theorem ix_false : ∀ (l : List (List Int)) (i : Nat), idxFrom (fun _ => false) i l = -1 := by
 intro l
 induction l with
 | nil => intro i; rfl
 | cons a r ih => intro i; rw [idxFrom]; simpa using ih (i + 1)
set_option maxHeartbeats 2000000 in
theorem patterns_2.calls (x : List Int) (A : Option Addr) (c k : Nat) (W : World) (hx : impl_IsPattern.f k x = some true) (hC : Kd.C (Kd.int .i64) W A x.length x) (hc : x.length ≤ c) :
  Gives Try.prog 76 #[.slice A x.length c] W (.bool false) := by
 have hcon := impl_IsPattern.calls k A c x true W hC hc hx
 unfold Gives
 clear hC hc hx
 go_enter Try.func76, Try.ntmps76
 go_wp2_with (go_at_call 63; refine hcon.mono ?_; rintro e w' ⟨rfl, hb⟩; have HB := Aside0.mk hb; clear hb)
 go_ret
 exact ⟨rfl, HB.out⟩
set_option maxHeartbeats 2000000 in
theorem slices_DeleteFunc_none.calls (gf : Nat) (A : Option Addr) (cap : Nat) (l : List (List Int)) (w : World)
  (eg : ∀ args w, (callFunc gf args).run Try.prog w = .ok (.enter gf args) w)
  (hp : ∀ (x : List Int) (A : Option Addr) (c : Nat) (W : World), x ∈ l → Kd.C (Kd.int .i64) W A x.length x → x.length ≤ c → Gives Try.prog gf #[.slice A x.length c] W (.bool false))
  (hr0 : Kd.C (Kd.slice 3 (Kd.int .i64)) w A l.length l) (hc0 : l.length ≤ cap) :
  Calls Try.prog 75 #[.slice A l.length cap, .func (.func gf) #[] #[]] w fun e w' => e = .returned (.slice A l.length cap) ∧ Below w.heap.size w w' := by
 have hcon := slices_IndexFunc_rows.calls gf #[] (fun _ => false) A cap l w eg (fun x A c W hx hb hC hc => by simpa using hp x A c W hx hC hc) hr0 hc0
 unfold idxOf at hcon
 rw [ix_false] at hcon
 clear hp hr0 hc0
 go_enter Try.func75, Try.ntmps75
 go_wp2_with (go_at_call 88; refine hcon.mono ?_; rintro e w' ⟨rfl, hb⟩; have HB := Aside0.mk hb; clear hb)
 go_ret
 exact ⟨rfl, HB.out⟩
/-- A table of the call's own comes back. -/
def RetM2 (w : World) (T : List (List Int)) (e : Ending) (w' : World) : Prop := ∃ v0_ : Value, e = .returned (v0_) ∧ Kd.S (Kd.slice 3 (Kd.int .i64)) 28 w' w.heap.size (fun _ => True) v0_ T ∧ Below w.heap.size w w'
set_option maxHeartbeats 2000000 in
theorem impl_patterns.callsG (n : Nat) (k kp : Nat) (X : List (List Int)) (w : World) (hn0 : 1 ≤ n) (hn : n ≤ 100) (hmul : bits_Mul.f 1 ((2 * n : Nat) : Int) = some (0, ((2 * n : Nat) : Int))) (h : jnE k (List.replicate (2 * n) (-1)) = some X) (hX : X.length ≤ 1000000) (hpat : ∀ x ∈ X, impl_IsPattern.f kp x = some true) :
  Calls Try.prog 39 #[.int .i64 n] w (RetM2 w X) := by
 have eg : ∀ args w, (callFunc 71 args).run Try.prog w = .ok (.enter 71 args) w := enters_of Try.func71 (by kernel_rfl) rfl
 have eg2 : ∀ args w, (callFunc 76 args).run Try.prog w = .ok (.enter 76 args) w := enters_of Try.func76 (by kernel_rfl) rfl
 obtain ⟨m, hm⟩ : ∃ m, m = 2 * n := ⟨_, rfl⟩
 have hm2 : IntKind.i64.wrap (2 * (n : Int)) = (m : Int) := by rw [IntWalk.i64_in _ ⟨by omega, by omega⟩]; omega
 have hm1 : 1 ≤ m ∧ m ≤ 1000 := by omega
 rw [← hm] at hmul h
 obtain ⟨W4, hW4⟩ : ∃ W4, W4 = (((w.alloc (.cells #[] 28)).alloc (.cells #[.slice (some ⟨w.heap.size, 0, none⟩) 0 0] 22)).alloc (.cells #[.func (.func 71) #[] #[.pointer (some ⟨w.heap.size + 1, 0, none⟩), .pointer (some ⟨w.heap.size + 1 + 1, 0, none⟩)]] 69)) := ⟨_, rfl⟩
 have hb4 : Below w.heap.size w W4 := by rw [hW4]; exact below_alloc (below_alloc (below_alloc (Below.refl _ _) _) _) _
 have hsz : W4.heap.size = w.heap.size + 1 + 1 + 1 := by rw [hW4]; simp
 have henv : JnEnv W4 (w.heap.size + 1) (w.heap.size + 1 + 1) (.slice (some ⟨w.heap.size, 0, none⟩) 0 0) := by
  rw [hW4]
  exact ⟨blk_alloc (blk_new_at (by simp)) _, blk_new_at (by simp), by omega⟩
 have hemp : W4.heap[w.heap.size]? = some (.cells #[] 28 (0, 0)) := by rw [hW4]; exact blk_alloc (blk_alloc (blk_new_at rfl) _) _
 have hk1 : W4.cell? ⟨w.heap.size + 1 + 1, 0, none⟩ = some (.func (.func 71) #[] #[.pointer (some ⟨w.heap.size + 1, 0, none⟩), .pointer (some ⟨w.heap.size + 1 + 1, 0, none⟩)]) := blk_cell henv.add 0
 have HCALL := Aside0.mk (fun (W : World) (g : Nat) (hb : Below W4.heap.size W4 W) (hg : intBlk W g (List.replicate m (-1))) (hge : W4.heap.size ≤ g) => patterns_1.calls w.heap.size w (w.heap.size + 1) (w.heap.size + 1 + 1) (by omega) k (List.replicate m (-1)) X [] (w.heap.size + 1 + 1 + 1) (some ⟨g, 0, none⟩) m (.slice (some ⟨w.heap.size, 0, none⟩) 0 0) W h (by simpa using hX) (henv.below hb) (by omega) (by have := hb.size; omega) (by omega) (by omega) (hb4.trans (hb.mono (by omega))) (Kd.S_below (S_empty hemp (by omega) ⟨⟨by omega, by omega⟩, by omega⟩) hb) (by have := intBlk_R (base := w.heap.size) (ok := fun k => okJ (w.heap.size + 1) (w.heap.size + 1 + 1) k ∧ w.heap.size + 1 + 1 + 1 ≤ k) hg (by omega) ⟨⟨by omega, by omega⟩, by omega⟩ (by simp; omega); simpa using this))
 have HS := Aside0.mk hsz
 have HB := Aside0.mk hb4
 have HW4 := Aside0.mk hW4
 have HPAT := Aside0.mk hpat
 have HB4 := Aside0.mk (Below.refl W4.heap.size W4)
 have HREP := Aside0.mk (fun (g : Nat) (W : World) hg => slices_Repeat1.calls (-1) g m W hm1.1 hm1.2 hmul hg)
 clear hemp henv hb4 hsz hW4 h hX hpat hn hn0 hmul hm hm1
 go_enter Try.func39, Try.ntmps39
 go_wp2
 rw [← HW4.out]
 have HBC := HB4
 go_region_held3 (fun W1 => W1.cell? ⟨w.heap.size + 1 + 1, 0, none⟩ = some (.func (.func 71) #[] #[.pointer (some ⟨w.heap.size + 1, 0, none⟩), .pointer (some ⟨w.heap.size + 1 + 1, 0, none⟩)])) (first | (exact hk1) | (exact hq1) | (have hh_ := ‹World.cell? _ _ = _›; exact pw_cell_below (below_alloc (Below.refl _ _) _) hh_)) (first
  | (go_at_call 74; refine (HREP.out _ _ ?hg).mono ?_; (case hg => first | exact blk_cell (blk_new _ _) 0 | exact blk_cell (blk_drew (blk_new _ _)) 0); rintro e w2 ⟨g2, rfl, hge2, hi2, hb2⟩; have n_ := fun h => Aside0.mk (Below.trans (B := W4.heap.size) h (hb2.mono (Below.size h))); have m_ := n_ (by repeat (first | exact HBC.out | refine below_alloc ?_ _ | refine below_drew ?_)); have z_ := fun (h : Below W4.heap.size W4 _) => Aside0.mk (Nat.le_trans h.size hge2); have HG2 := z_ (by repeat (first | exact HBC.out | refine below_alloc ?_ _ | refine below_drew ?_)); clear z_ n_ HBC; have HBC := m_; clear m_; have HI2 := Aside0.mk hi2; have hq1 := pw_cell_below HBC.out hk1; clear hi2 hb2 hge2)
  | (go_at_fn 71; have hc_ := HCALL.out _ _ HBC.out HI2.out HG2.out; rw [List.length_replicate] at hc_; refine hc_.mono ?_; clear hc_; rintro e w5 ⟨rfl, v5, he5, hs5, ht5, _⟩; have hx5 : w5.cell? ⟨w.heap.size + 1, 0, none⟩ = some v5 := blk_cell he5.out 0; clear hq1; have hq1 := blk_cell he5.add 0; have HS5 := Aside0.mk (show Kd.S (Kd.slice 3 (Kd.int .i64)) 28 w5 w.heap.size (okJ (w.heap.size + 1) (w.heap.size + 1 + 1)) v5 X by rwa [List.nil_append] at hs5); have HT5 := Aside0.mk ht5; clear he5 hs5 ht5))
 all_goals
  obtain ⟨A5, n5, c5, rfl⟩ := slice3J HS5.out
  obtain ⟨rfl, hc5, hC5⟩ := Kd.S_reads' HS5.out
  have hcon := slices_DeleteFunc_none.calls 76 A5 c5 X w5 eg2 (fun x A c W hx hC hc => patterns_2.calls x A c kp W (HPAT.out x hx) hC hc) hC5 hc5
  have HBX := Aside0.mk (HB.out.trans ((HBC.out.mono (show w.heap.size ≤ W4.heap.size by have := HS.out; omega)).trans (HT5.out.below (fun k hk => hk.elim (fun e => by omega) (fun e => by simp [Value.ownBlock] at e; omega)) (by have := HS.out; have := HBC.out.size; omega))))
  clear hc5 hC5
  go_wp2_with (go_at_call 75; refine hcon.mono ?_; rintro e w6 ⟨rfl, hb6⟩; have HB6 := Aside0.mk hb6; clear hb6)
  go_ret
  exact ⟨_, rfl, Kd.S_mono (Kd.S_below HS5.out HB6.out) (fun _ _ => trivial), below_step HBX.out HB6.out⟩
end Go.Proofs.Ythbkjaieenochaa
