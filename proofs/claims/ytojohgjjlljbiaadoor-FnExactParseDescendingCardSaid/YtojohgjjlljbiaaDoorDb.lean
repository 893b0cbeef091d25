/- The pieces of a text at '/', and the descending table that they make: the plain laws. -/
import Derived.Test.YtojohgjjlljbiaaDoorLd
import Derived.Test.YtojohgjjlljbiaaDoorHsp
import Derived.Test.YtojohgjjlljbiaaDoorPx4
import Derived.Lib.SplitLaws
namespace Go.Proofs.YtojohgjjlljbiaaDoor.L
open Go.RowKit Go.Proofs.YtojohgjjlljbiaaDoor Go.Proofs.YtojohgjjlljbiaaDoor.P Go.Proofs.YtojohgjjlljbiaaDoorW.PrintWords Go.Proofs.YtojohgjjlljbiaaDoorW.PrintLast Go.Proofs.YtojohgjjlljbiaaDoorW.PrintMore
set_option linter.unusedVariables false
set_option linter.unusedSimpArgs false

/-- A text cut at each '/'. -/
def cutS (s : ByteArray) : List ByteArray := Lib.splitB ⟨#[47]⟩ 0 (Lib.countB s ⟨#[47]⟩) s
theorem indexB_one (s : ByteArray) : Lib.indexB s ⟨#[47]⟩ = Lib.indexByte s.data.toList 47 := Lib.index_one s.data.toList 47
theorem cutS_miss (s : ByteArray) (h : ∀ j, j < s.size → s.data.toList[j]? ≠ some 47) : cutS s = [s] := by
  rcases Lib.indexB_cases s ⟨#[47]⟩ with hx | ⟨i, hx, hr⟩
  · exact Lib.splitB_miss _ _ _ _ hx
  · have h2 := (Lib.indexByte_some ((indexB_one s).symm.trans hx)).1
    have hi : i + 1 ≤ s.size := hr
    exact absurd h2 (h i (by omega))
theorem cutS_hit (s : ByteArray) (j : Nat) (h0 : s.data.toList[j]? = some 47) (h : ∀ k, k < j → s.data.toList[k]? ≠ some 47) : cutS s = s.extract 0 j :: cutS (s.extract (j + 1) s.size) := by
  rcases Lib.indexB_cases s ⟨#[47]⟩ with hx | ⟨i, hx, hr⟩
  · exact absurd h0 (Lib.indexByte_none ((indexB_one s).symm.trans hx) j)
  · obtain ⟨h2, h3⟩ := Lib.indexByte_some ((indexB_one s).symm.trans hx)
    have e : i = j := by
      rcases Nat.lt_trichotomy i j with hl | hl | hl
      · exact absurd h2 (h i hl)
      · exact hl
      · exact absurd h0 (h3 j hl)
    subst e
    unfold cutS
    rw [Lib.countB_hit s ⟨#[47]⟩ i (by decide) hx, Nat.add_comm, Lib.splitB_hit _ _ _ _ i hx]
    rfl
/-- The letters of all pieces, and one for each. -/
def sizes (L : List ByteArray) : Nat := (L.map fun w => w.size + 1).sum
theorem cutS_sizes : ∀ (n : Nat) (s : ByteArray), s.size ≤ n → sizes (cutS s) = s.size + 1 := by
  intro n
  induction n with
  | zero =>
    intro s hs
    rw [cutS_miss s (fun j hj => by omega)]
    simp [sizes]
  | succ n ih =>
    intro s hs
    rcases Lib.indexB_cases s ⟨#[47]⟩ with hx | ⟨i, hx, hr⟩
    · have := Lib.splitB_miss ⟨#[47]⟩ 0 (Lib.countB s ⟨#[47]⟩) s hx
      rw [show cutS s = [s] from this]
      simp [sizes]
    · obtain ⟨h2, h3⟩ := Lib.indexByte_some ((indexB_one s).symm.trans hx)
      have hi : i + 1 ≤ s.size := hr
      rw [cutS_hit s i h2 h3]
      have e1 : (s.extract 0 i).size = i := by rw [ByteArray.size_extract]; omega
      have e2 : (s.extract (i + 1) s.size).size = s.size - (i + 1) := by rw [ByteArray.size_extract]; omega
      have := ih (s.extract (i + 1) s.size) (by omega)
      unfold sizes at this ⊢
      rw [List.map_cons, List.sum_cons, this, e1, e2]
      omega
theorem sizes_len : ∀ L : List ByteArray, L.length ≤ sizes L
  | [] => Nat.zero_le _
  | w :: L => by
    have := sizes_len L
    unfold sizes at this ⊢
    rw [List.map_cons, List.sum_cons, List.length_cons]
    omega
theorem sizes_mem {L : List ByteArray} {w : ByteArray} (h : w ∈ L) : w.size + 1 ≤ sizes L := by
  induction L with
  | nil => cases h
  | cons x L ih =>
    unfold sizes at ih ⊢
    rw [List.map_cons, List.sum_cons]
    rcases List.mem_cons.1 h with rfl | h2
    · omega
    · have := ih h2; omega

theorem bt_data (s : ByteArray) (j : Nat) (h : j < s.size) : ∃ b : UInt8, s.data.toList[j]? = some b ∧ bt s (j : Int) = (b.toNat : Int) := by
  refine ⟨s[j], Lib.data_getElem? s j h, ?_⟩
  rw [← bt_at s (j : Int) (by simpa using h)]
  rfl
theorem extract_rest (s : ByteArray) (a b : Nat) (ha : a ≤ s.size) (hb : b ≤ s.size - a) : (s.extract a s.size).extract 0 b = s.extract a (a + b) := by
  rw [ByteArray.extract_extract]; congr 1 <;> omega
theorem extract_tail (s : ByteArray) (a b : Nat) (ha : a ≤ s.size) : (s.extract a s.size).extract b (s.extract a s.size).size = s.extract (a + b) s.size := by
  rw [ByteArray.extract_extract, ByteArray.size_extract]; congr 1; omega
theorem extract_data_at (s : ByteArray) (a j : Nat) : (s.extract a s.size).data.toList[j]? = s.data.toList[a + j]? := by
  rw [Lib.extract_to_end, List.getElem?_drop]
theorem l1Split_l0 (s : ByteArray) (hs : s.size ≤ 1048576) : ∀ (d i a : Nat) (out : List ByteArray), i + d = s.size → a ≤ i → out.length ≤ i → (∀ j, a ≤ j → j < i → s.data.toList[j]? ≠ some 47) →
    Ev (fun k => spec_l1Split.l0 k s 47 out a i) (out ++ cutS (s.extract a s.size)) := by
  intro d
  induction d with
  | zero =>
    intro i a out hi ha ho hno
    refine Ev.step (fun k => by rw [spec_l1Split.l0]) ?_
    rw [cutS_miss (s.extract a s.size) (fun j hj => by
      rw [ByteArray.size_extract] at hj
      rw [extract_data_at]
      exact hno (a + j) (by omega) (by omega))]
    refine Ev.ite_neg (by omega) (Ev.ite_pos (by omega) (Ev.ite_pos (by omega) (Ev.ite_pos (by omega) ?_)))
    exact Ev.now _
  | succ d ih =>
    intro i a out hi ha ho hno
    refine Ev.step (fun k => by rw [spec_l1Split.l0]) ?_
    obtain ⟨b, hb, hbt⟩ := bt_data s i (by omega)
    rw [hbt, wrapS i (by omega)]
    refine Ev.ite_pos (by omega) (Ev.ite_pos (by omega) ?_)
    by_cases h : (b.toNat : Int) = 47
    · have hb47 : b = 47 := UInt8.toNat_inj.1 (by rw [show (47 : UInt8).toNat = 47 from rfl]; omega)
      subst hb47
      refine Ev.ite_pos h (Ev.ite_pos (by omega) (Ev.ite_pos (by omega) (Ev.ite_pos (by omega) (Ev.ite_pos (by omega) ?_))))
      rw [cutS_hit (s.extract a s.size) (i - a) (by rw [extract_data_at, show a + (i - a) = i by omega]; exact hb) (fun k hk => by rw [extract_data_at]; exact hno (a + k) (by omega) (by omega))]
      rw [extract_rest s a (i - a) (by omega) (by omega), show a + (i - a) = i by omega, extract_tail s a (i - a + 1) (by omega), show a + (i - a + 1) = i + 1 by omega]
      have := ih (i + 1) (i + 1) (out ++ [s.extract a i]) (by omega) (Nat.le_refl _) (by simp; omega) (fun j h1 h2 => by omega)
      rw [List.append_assoc, List.singleton_append] at this
      exact this
    · refine Ev.ite_neg h ?_
      exact ih (i + 1) a out (by omega) (by omega) (by omega) (fun j h1 h2 => by
        by_cases hj : j < i
        · exact hno j h1 hj
        · have : j = i := by omega
          subst this
          rw [hb]
          intro hc
          obtain rfl := Option.some.inj hc
          exact h rfl)
theorem l1Split_ev (s : ByteArray) (hs : s.size ≤ 1048576) : Ev (fun k => spec_l1Split.f k s 47) (cutS s) := by
  have h := l1Split_l0 s hs s.size 0 0 [] (by omega) (Nat.le_refl _) (Nat.le_refl _) (fun j _ h => by omega)
  rw [show s.extract 0 s.size = s by apply ByteArray.ext; simp, List.nil_append] at h
  exact h

/-- What the reference reads of a letter. -/
def dig (b : UInt8) : Int := if b.toNat < 48 then -1 else if 57 < b.toNat then -1 else (b.toNat : Int) - 48
def sRow (s : ByteArray) : List Int := s.data.toList.map dig
theorem bt0 (b : UInt8) : bt ⟨#[b]⟩ 0 = (b.toNat : Int) := by
  rw [← bt_at ⟨#[b]⟩ 0 (by decide : 0 < 1)]; rfl
theorem l1Read_ev (b : UInt8) : Ev (fun k => spec_l1Read.f k ⟨#[b]⟩) (dig b) := by
  have hr : ∀ k, spec_l1Read.l0 (k + 2) ⟨#[b]⟩ 0 0 = some (dig b) := by
    intro k
    have hsz : ((ByteArray.size ⟨#[b]⟩ : Nat) : Int) = 1 := rfl
    have hlt := b.toNat_lt
    rw [spec_l1Read.l0, bt0, hsz, if_pos (by decide), if_pos (by decide)]
    unfold dig
    by_cases h1 : b.toNat < 48
    · rw [if_pos (by omega), if_pos h1]
    · rw [if_neg (by omega), if_neg h1]
      by_cases h2 : 57 < b.toNat
      · rw [if_pos (by omega), if_pos h2]
      · rw [if_neg (by omega), if_neg h2, show wrap64 (0 + 1) = 1 from wrapS 0 (by omega), spec_l1Read.l0, hsz, if_neg (by decide)]
        congr 1
        unfold wrap64; omega
  have hl : Ev (fun k => spec_l1Read.l0 k ⟨#[b]⟩ 0 0) (dig b) := ⟨2, fun n hn => by obtain ⟨k, rfl⟩ : ∃ k, n = k + 2 := ⟨n - 2, by omega⟩; exact hr k⟩
  have hj : Ev (fun k => spec_l1Read.j0 k ⟨#[b]⟩ false) (dig b) := by
    refine Ev.step (fun k => by rw [spec_l1Read.j0]) ?_
    exact Ev.ite_neg (by simp) hl
  unfold spec_l1Read.f
  rw [l1In_eq]
  refine Ev.some_bind (a := true) (by rfl) (Ev.ite_pos rfl (Ev.ite_pos (show (0 : Int) < ((1 : Nat) : Int) by decide) ?_))
  by_cases h : bt ⟨#[b]⟩ 0 = 48
  · refine Ev.ite_pos h ?_
    rw [show (decide (((ByteArray.size ⟨#[b]⟩ : Nat) : Int) > 1)) = false from rfl]
    exact hj
  · exact Ev.ite_neg h hj
theorem extract_one (s : ByteArray) (i : Nat) (b : UInt8) (h : s.data.toList[i]? = some b) : s.extract i (i + 1) = ⟨#[b]⟩ := by
  have hlt : i < s.data.toList.length := (List.getElem?_eq_some_iff.1 h).1
  have he := (List.getElem?_eq_some_iff.1 h).2
  apply ByteArray.ext
  apply Array.ext'
  rw [Lib.extract_data]
  rw [show i + 1 - i = 1 by omega, List.drop_eq_getElem_cons hlt, he]
  rfl
theorem row_l1 (L : List ByteArray) (T : List (List Int)) (w : ByteArray) (i : Nat) (n : Int) (hw : w.size ≤ 1048576) (hT : T.length ≤ 1048576) {r : List (List Int) × Bool} (hr : Ev (fun k => spec_ParseDescending.l0 k (T ++ [sRow w]) L n ((i + 1 : Nat) : Int)) r) (hi : i < 1048577) :
    ∀ (d j : Nat), j + d = w.size → Ev (fun k => spec_ParseDescending.l1 k T w ((w.data.toList.take j).map dig) j L n i) r := by
  intro d
  have hsz : w.data.toList.length = w.size := by simp
  induction d with
  | zero =>
    intro j hj
    refine Ev.step (fun k => by rw [spec_ParseDescending.l1]) ?_
    rw [List.take_of_length_le (by omega), wrapS i (by omega)]
    exact Ev.ite_neg (by omega) (Ev.ite_pos (by omega) hr)
  | succ d ih =>
    intro j hj
    refine Ev.step (fun k => by rw [spec_ParseDescending.l1]) ?_
    obtain ⟨b, hb, _⟩ := bt_data w j (by omega)
    have hlt : j < w.data.toList.length := by omega
    have he := (List.getElem?_eq_some_iff.1 hb).2
    rw [wrapS j (by omega), Int.toNat_natCast, Int.toNat_natCast, extract_one w j b hb]
    refine Ev.ite_pos (by omega) (Ev.ite_pos (by omega) (Ev.ite_pos (by omega) (Ev.ite_pos (by omega) (Ev.bind (l1Read_ev b) (Ev.ite_pos ?_ ?_)))))
    · rw [List.length_map, List.length_take]; omega
    · have := ih (j + 1) (by omega)
      rw [List.take_succ_eq_append_getElem hlt, List.map_append, he] at this
      exact this
theorem rows_l0 (L : List ByteArray) (hL : L.length ≤ 1048576) (hw : ∀ w ∈ L, w.size ≤ 1048576) {r : List (List Int) × Bool} (hr : Ev (fun k => (spec_dpGood.f k (L.map sRow) 6).bind fun t => if t = true then some (L.map sRow, true) else some (([] : List (List Int)), false)) r) :
    ∀ (d i : Nat), i + d = L.length → i ≤ 1048576 → Ev (fun k => spec_ParseDescending.l0 k ((L.take i).map sRow) L (L.length : Int) i) r := by
  intro d
  induction d with
  | zero =>
    intro i hi hi2
    refine Ev.step (fun k => by rw [spec_ParseDescending.l0]) ?_
    rw [List.take_of_length_le (by omega)]
    exact Ev.ite_neg (by omega) hr
  | succ d ih =>
    intro i hi hi2
    have hlt : i < L.length := by omega
    refine Ev.step (fun k => by rw [spec_ParseDescending.l0]) ?_
    have hx : rdOf ByteArray.empty L (i : Int) = L[i] := by simp [rdOf, List.getD_eq_getElem?_getD, hlt]
    rw [hx]
    refine Ev.ite_pos (by omega) (Ev.ite_pos (by omega) (Ev.ite_pos (by omega) ?_))
    have hm := hw _ (List.getElem_mem hlt)
    have h0 := row_l1 L ((L.take i).map sRow) L[i] i (L.length : Int) hm (by rw [List.length_map, List.length_take]; omega) (r := r) ?_ (by omega) L[i].size 0 (by omega)
    · exact h0
    · have h1 : Ev (fun k => spec_ParseDescending.l0 k ((L.take (i + 1)).map sRow) L (L.length : Int) ((i + 1 : Nat) : Int)) r := by
        exact ih (i + 1) (by omega) (by omega)
      rw [List.take_succ_eq_append_getElem hlt, List.map_append] at h1
      exact h1

/-- From row i on: the letters of a good table's rows, and one for each. -/
theorem good_sizes (n : Int) (l : List (List Int)) : ∀ (d i p : Nat), i + d = l.length → 1 ≤ i → (l.getD (i - 1) []).length = p → goodFrom n l i = true → 2 * ((l.drop i).map fun r => r.length + 1).sum ≤ p * (p + 1) := by
  intro d
  induction d with
  | zero => intro i p hi h1 hp hg; rw [List.drop_eq_nil_of_le (by omega)]; simp
  | succ d ih =>
    intro i p hi h1 hp hg
    have hlt : i < l.length := by omega
    rw [goodFrom_step n l i (by omega), Bool.and_eq_true, Bool.and_eq_true, decide_eq_false (by omega), Bool.false_or] at hg
    obtain ⟨⟨hr, hb⟩, hg⟩ := hg
    simp only [belowB, Bool.and_eq_true] at hb
    have hlen := of_decide_eq_true hb.1
    rw [hp] at hlen
    have h2 := ih (i + 1) (l.getD i []).length (by omega) (by omega) (by rw [Nat.add_sub_cancel]) hg
    rw [List.drop_eq_getElem_cons hlt, List.map_cons, List.sum_cons]
    rw [List.getD_eq_getElem?_getD, List.getElem?_eq_getElem hlt, Option.getD_some] at h2 hlen
    obtain ⟨q, hq⟩ : ∃ q, q = l[i].length := ⟨_, rfl⟩
    rw [← hq] at h2 hlen ⊢
    have h3 : (q + 1) * (q + 2) ≤ p * (p + 1) := Nat.mul_le_mul (by omega) (by omega)
    have h4 : (q + 1) * (q + 2) = q * (q + 1) + 2 * (q + 1) := by rw [Nat.mul_add, Nat.mul_comm (q + 1) q, Nat.mul_comm (q + 1) 2]
    omega
theorem isDesc_sizes (l : List (List Int)) (h : isDesc 6 l = true) : (l.map fun r => r.length + 1).sum ≤ 21 := by
  unfold isDesc at h
  rcases Nat.eq_zero_or_pos l.length with h0 | h0
  · rw [List.length_eq_zero_iff.1 h0]; simp
  · have h1 := h
    rw [goodFrom_step 6 l 0 h0, Bool.and_eq_true, Bool.and_eq_true] at h1
    obtain ⟨⟨hr, _⟩, hg⟩ := h1
    have hf := (rowGood_facts hr).2.1
    have h2 := good_sizes 6 l (l.length - 1) 1 (l.getD 0 []).length (by omega) (by omega) rfl hg
    have hd : l = l[0] :: l.drop 1 := by
      have := List.drop_eq_getElem_cons h0
      rw [List.drop_zero] at this
      exact this
    rw [List.getD_eq_getElem?_getD, List.getElem?_eq_getElem h0, Option.getD_some] at h2 hf
    rw [hd, List.map_cons, List.sum_cons]
    obtain ⟨q, hq⟩ : ∃ q, q = l[0].length := ⟨_, rfl⟩
    rw [← hq] at h2 hf ⊢
    have h3 : q * (q + 1) ≤ 5 * 6 := Nat.mul_le_mul (by omega) (by omega)
    omega
theorem goodFrom_rows (n : Int) (l : List (List Int)) : ∀ (d i : Nat), i + d = l.length → goodFrom n l i = true → ∀ r ∈ l.drop i, rowGood n r = true := by
  intro d
  induction d with
  | zero => intro i hi hg r hr; rw [List.drop_eq_nil_of_le (by omega)] at hr; cases hr
  | succ d ih =>
    intro i hi hg r hr
    have hlt : i < l.length := by omega
    rw [goodFrom_step n l i hlt, Bool.and_eq_true, Bool.and_eq_true] at hg
    rw [List.drop_eq_getElem_cons hlt] at hr
    rcases List.mem_cons.1 hr with rfl | h2
    · have := hg.1.1
      rw [List.getD_eq_getElem?_getD, List.getElem?_eq_getElem hlt, Option.getD_some] at this
      exact this
    · exact ih (i + 1) (by omega) hg.2 r h2
theorem isDesc_rows {n : Int} {l : List (List Int)} (h : isDesc n l = true) : ∀ r ∈ l, rowGood n r = true := by
  have := goodFrom_rows n l l.length 0 (by omega) h
  rwa [List.drop_zero] at this
/-- Two ways to read letters that agree where either gives one of 1 to 6. -/
theorem both_desc (L : List ByteArray) (f g : UInt8 → Int) (h1 : ∀ b, 1 ≤ f b → f b ≤ 6 → g b = f b) (h2 : ∀ b, 1 ≤ g b → g b ≤ 6 → f b = g b) :
    isDesc 6 (L.map fun s => s.data.toList.map f) = isDesc 6 (L.map fun s => s.data.toList.map g) ∧ (isDesc 6 (L.map fun s => s.data.toList.map f) = true → (L.map fun s => s.data.toList.map f) = (L.map fun s => s.data.toList.map g)) := by
  have key : ∀ (f g : UInt8 → Int), (∀ b, 1 ≤ f b → f b ≤ 6 → g b = f b) → isDesc 6 (L.map fun s => s.data.toList.map f) = true → (L.map fun s => s.data.toList.map f) = (L.map fun s => s.data.toList.map g) := by
    intro f g h1 h
    apply List.map_congr_left
    intro s hs
    apply List.map_congr_left
    intro b hb
    have hr := isDesc_rows h (s.data.toList.map f) (List.mem_map.2 ⟨s, hs, rfl⟩)
    have ha := (rowGood_facts hr).2.2.1
    have := (inB_iff _ _ _).1 (List.all_eq_true.1 ha (f b) (List.mem_map.2 ⟨b, hb, rfl⟩))
    exact (h1 b this.1 this.2).symm
  refine ⟨?_, key f g h1⟩
  cases ha : isDesc 6 (L.map fun s => s.data.toList.map f) with
  | true => rw [← key f g h1 ha, ha]
  | false =>
    cases hb : isDesc 6 (L.map fun s => s.data.toList.map g) with
    | false => rfl
    | true => have := key g f h2 hb; rw [this, ha] at hb; cases hb
end Go.Proofs.YtojohgjjlljbiaaDoor.L
