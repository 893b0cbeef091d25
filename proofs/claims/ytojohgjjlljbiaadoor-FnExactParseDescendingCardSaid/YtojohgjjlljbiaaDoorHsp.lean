/- strings.Split, as a given of the print: the variable internal/bytealg.MaxLen lies in the world. -/
import Derived.Test.YtojohgjjlljbiaaDoorSs
import Derived.Test.YtojohgjjlljbiaaDoorHA
namespace Go.Proofs.YtojohgjjlljbiaaDoor
open Go.RowKit Go.Proofs.YtojohgjjlljbiaaDoorW.PrintWords Go.Proofs.YtojohgjjlljbiaaDoorW.PrintLast Go.Proofs.YtojohgjjlljbiaaDoorW.PrintMore
set_option linter.unusedVariables false

/-- The variable of the library lies in the world. -/
def HasMax (w : World) : Prop := ∃ m : Int, w.cell? ⟨0, 0, none⟩ = some (.int .i64 m)
theorem HasMax.below {w W : World} (h : HasMax w) (hb : Below w.heap.size w W) : HasMax W := ⟨h.choose, pw_cell_below hb h.choose_spec⟩
theorem strBlk_R {W : World} {base g : Nat} {ok : Nat → Prop} {l : List ByteArray} (h : W.heap[g]? = some (.cells (l.map Value.string).toArray 9 (0, 0))) (hb : base ≤ g) (hok : ok g) (hl : l.length ≤ 1000000000000) :
    Kd.R Kd.string 9 W base ok (.slice (some ⟨g, 0, none⟩) l.length l.length) l := by
  refine ⟨fun k hk => ?_, l.map Value.string, ⟨by simp [Kd.string, Kd.scalar], .inr ⟨g, l.length, _, rfl, hb, h, Nat.le_refl _, by unfold maxLen; omega, by simp [Kd.string, Kd.scalar], by simp [Kd.string, Kd.scalar]; exact List.take_of_length_le (by simp)⟩⟩, ?_⟩
  · have : g = k := by simpa [Value.ownBlock] using hk
    exact this ▸ hok
  · refine ⟨by simp [Kd.string, Kd.scalar], fun j p hj => ?_⟩
    have hj2 : j < l.length := (List.getElem?_eq_some_iff.1 hj).1
    have hp : l[j] = p := (List.getElem?_eq_some_iff.1 hj).2
    show ((l.map Value.string).drop (j * 1)).take 1 = [Value.string p]
    rw [Nat.mul_one, List.drop_eq_getElem_cons (by simp; omega)]
    simp [hp]
def strings_Split.f (a0 a1 : ByteArray) : Option (List ByteArray) := if a0.size ≤ 1048576 ∧ 1 ≤ a1.size then some (Lib.splitB a1 0 (Lib.countB a0 a1) a0) else none
theorem strings_Split.calls (a0 : ByteArray) (a1 : ByteArray) (r : List ByteArray) (w : World) (h : strings_Split.f a0 a1 = some r) (hm : HasMax w) :
    Calls Tryd.prog 12 #[.string a0, .string a1] w fun e w' => ∃ v0_ : Value, e = .returned (v0_) ∧ Kd.R Kd.string 9 w' w.heap.size (fun _ => True) v0_ r ∧ Below w.heap.size w w' := by
  unfold strings_Split.f at h
  split at h
  case isFalse => cases h
  rename_i hn
  obtain rfl := Option.some.inj h
  obtain ⟨m, hm⟩ := hm
  have c := Any.strings_Split ss_lays (by kernel_rfl) a0 a1 m w (by omega) hm hn.2
  refine c.mono ?_
  rintro e w' ⟨rfl, rfl⟩
  have hl := Lib.splitB_all a1 hn.2 0 _ a0 rfl
  have hlen := Lib.countB_le a1 hn.2 a0.size a0 (Nat.le_refl _)
  have hl2 : (Lib.splitB a1 0 (Lib.countB a0 a1) a0).length ≤ 1000000000000 := by omega
  rw [← hl]
  refine ⟨_, rfl, ?_, below_alloc (Below.refl _ _) _⟩
  exact strBlk_R (blk_new w _) (Nat.le_refl _) trivial hl2
end Go.Proofs.YtojohgjjlljbiaaDoor
