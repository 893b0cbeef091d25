/- Texts of one chain, in build order. -/
import Derived.Test.YthlgclfhoeakgaaYBCountOrbitsCountFixedOrbitLengths32
namespace Go.Proofs.Ythlgclfhoeakgaa.L
open Go.RowKit Go.Proofs.Ythlgclfhoeakgaa Go.Proofs.Ythlgclfhoeakgaa.P Go.Proofs.YthlgclfhoeakgaaW.PrintWords Go.Proofs.YthlgclfhoeakgaaW.PrintLast Go.Proofs.YthlgclfhoeakgaaW.PrintMore
set_option linter.unusedVariables false
set_option linter.unusedSimpArgs false

/-- The orbit, by rounds. -/
def orbP.l0 : Nat → List (List Int) → List (List (List Int)) → List (List Int) → Option ((List (List (List Int))) × Bool)
 | 0, _, _, _ => none
 | k + 1, x0, x4, x5 => (impl_compareTables.f x5 x0).bind fun c => (if c = 0 then (some (x4, true)) else (if (x4.length : Int) = 1000 then (some ([], false)) else (if x4.length < 5864062014805 then ((impl_gyrated.f x5).bind fun y => (orbP.l0 k x0 (x4 ++ [x5]) y)) else (none))))
def orbP.f (k : Nat) (l0 : List (List Int)) : Option ((List (List (List Int))) × Bool) := (impl_copyTable.f k l0).bind fun t => ((impl_gyrated.f l0).bind fun y => (orbP.l0 k l0 [t] y))
def gyoP.f (k : Nat) (l0 : List (List Int)) : Option ((List (List (List Int))) × Bool) := (impl_IsSignMatrix.f l0).bind fun t => (if t = true then ((orbP.f k l0).bind fun b => (some (b.1, b.2))) else (some ([], false)))
end Go.Proofs.Ythlgclfhoeakgaa.L

namespace Go.Proofs.Ythlgclfhoeakgaa.L
open Go.RowKit Go.Proofs.Ythlgclfhoeakgaa Go.Proofs.Ythlgclfhoeakgaa.P Go.Proofs.YthlgclfhoeakgaaW.PrintWords Go.Proofs.YthlgclfhoeakgaaW.PrintLast Go.Proofs.YthlgclfhoeakgaaW.PrintMore
set_option linter.unusedVariables false

theorem drop_eq_iff (a b : List Int) (i : Nat) (ha : i < a.length) (hb : i < b.length) : a.drop i = b.drop i ↔ rd a i = rd b i ∧ a.drop (i + 1) = b.drop (i + 1) := by
 rw [List.drop_eq_getElem_cons ha, List.drop_eq_getElem_cons hb, rd_at a i ha, rd_at b i hb, List.cons.injEq]
theorem spec_l1Same_l0 (a b : List Int) (hl : a.length ≤ 35184372088832) (hab : a.length = b.length) : ∀ (d i : Nat), i + d = a.length → Ev (fun k => spec_l1Same.l0 k a b a.length i) (decide (a.drop i = b.drop i)) := by
 intro d
 induction d with
 | zero =>
  intro i hi
  refine Ev.step (fun k => by rw [spec_l1Same.l0]) ?_
  rw [List.drop_eq_nil_of_le (by omega), List.drop_eq_nil_of_le (by omega)]
  exact Ev.ite_neg (by omega) (Ev.now _)
 | succ d ih =>
  intro i hi
  refine Ev.step (fun k => by rw [spec_l1Same.l0]) ?_
  refine Ev.ite_pos (by omega) (Ev.ite_pos (by omega) (Ev.ite_pos (by omega) (Ev.ite_pos (by omega) ?_)))
  have he := drop_eq_iff a b i (by omega) (by omega)
  by_cases h : rd a i = rd b i
  ·refine Ev.ite_pos h ?_
   rw [wrapS i (by omega), show decide (a.drop i = b.drop i) = decide (a.drop (i + 1) = b.drop (i + 1)) from by rw [decide_eq_decide, he]; simp [h]]
   exact ih (i + 1) (by omega)
  ·refine Ev.ite_neg h ?_
   rw [decide_eq_false (fun h2 => h (he.1 h2).1)]
   exact Ev.now _
theorem spec_l1Same_ev (a b : List Int) (hl : a.length ≤ 35184372088832) : Ev (fun k => spec_l1Same.f k a b) (decide (a = b)) := by
 unfold spec_l1Same.f
 by_cases h : (a.length : Int) = (b.length : Int)
 ·refine Ev.ite_pos h ?_
  have := spec_l1Same_l0 a b hl (by omega) a.length 0 (by omega)
  simpa using this
 ·refine Ev.ite_neg h ?_
  rw [decide_eq_false (fun e => h (by rw [e]))]
  exact Ev.now _
theorem heSame_l0 (a b : List (List Int)) (hl : fewRows a) (hab : a.length = b.length) : ∀ (d i : Nat), i + d = a.length → Ev (fun k => spec_heSame.l0 k b a a.length i) (decide (a.drop i = b.drop i)) := by
 have hl1 := hl.1
 intro d
 induction d with
 | zero =>
  intro i hi
  refine Ev.step (fun k => by rw [spec_heSame.l0]) ?_
  rw [List.drop_eq_nil_of_le (by omega), List.drop_eq_nil_of_le (by omega)]
  exact Ev.ite_neg (by omega) (Ev.now _)
 | succ d ih =>
  intro i hi
  have ha : i < a.length := by omega
  have hb : i < b.length := by omega
  refine Ev.step (fun k => by rw [spec_heSame.l0]) ?_
  refine Ev.ite_pos (by omega) (Ev.ite_pos (by omega) (Ev.ite_pos (by omega) (Ev.ite_pos (by omega) ?_)))
  rw [rd1_at a i ha, rd1_at b i hb, List.drop_eq_getElem_cons ha, List.drop_eq_getElem_cons hb]
  refine Ev.bind (spec_l1Same_ev a[i] b[i] (by have := hl.2 _ (List.getElem_mem ha); omega)) ?_
  by_cases h : a[i] = b[i]
  ·rw [decide_eq_true h, wrapS i (by omega), show decide (a[i] :: a.drop (i + 1) = b[i] :: b.drop (i + 1)) = decide (a.drop (i + 1) = b.drop (i + 1)) from by rw [decide_eq_decide, List.cons.injEq]; simp [h]]
   exact Ev.ite_pos rfl (ih (i + 1) (by omega))
  ·rw [decide_eq_false h, decide_eq_false (fun h2 => h (List.cons.inj h2).1)]
   exact Ev.ite_neg (by simp) (Ev.now _)
theorem heSame_ev (a b : List (List Int)) (hl : fewRows a) : Ev (fun k => spec_heSame.f k a b) (decide (a = b)) := by
 unfold spec_heSame.f
 by_cases h : (a.length : Int) = (b.length : Int)
 ·refine Ev.ite_pos h ?_
  have := heSame_l0 a b hl (by omega) a.length 0 (by omega)
  simpa using this
 ·refine Ev.ite_neg h ?_
  rw [decide_eq_false (fun e => h (by rw [e]))]
  exact Ev.now _
theorem own_ev_l0 (l : List (List Int)) (hf : fewRows l) : ∀ (d i : Nat), i + d = l.length → Ev (fun k => spec_gyOwn.l0 k (l.take i) l l.length i) l := by
 have hl := hf.1
 intro d
 induction d with
 | zero =>
  intro i hi
  refine Ev.step (fun k => by rw [spec_gyOwn.l0]) ?_
  rw [List.take_of_length_le (by omega)]
  exact Ev.ite_neg (by omega) (Ev.now _)
 | succ d ih =>
  intro i hi
  have hlt : i < l.length := by omega
  have hnext := ih (i + 1) (by omega)
  rw [List.take_succ_eq_append_getElem hlt] at hnext
  have hr := hf.2 _ (List.getElem_mem hlt)
  refine Ev.step (fun k => by rw [spec_gyOwn.l0]) ?_
  rw [rd1_at l i hlt, wrapS i (by omega)]
  refine Ev.ite_pos (by omega) (Ev.ite_pos (by omega) (Ev.ite_pos (by omega) ?_))
  refine Ev.some_bind (a := l[i]) (by unfold spec_l1Own.f; first | rfl | (rw [if_pos (by omega)]; rfl) | (simp; omega) | simp) ?_
  exact Ev.ite_pos (by rw [List.length_take]; omega) hnext
theorem own_ev (l : List (List Int)) (hf : fewRows l) : Ev (fun k => spec_gyOwn.f k l) l := own_ev_l0 l hf l.length 0 (by omega)
theorem copy_ev_l0 (l : List (List Int)) (hf : fewRows l) : ∀ (d i : Nat), i + d = l.length → Ev (fun k => impl_copyTable.l0 k (l.take i) l l.length i) l := by
 have hl := hf.1
 intro d
 induction d with
 | zero =>
  intro i hi
  refine Ev.step (fun k => by rw [impl_copyTable.l0]) ?_
  rw [List.take_of_length_le (by omega)]
  exact Ev.ite_neg (by omega) (Ev.now _)
 | succ d ih =>
  intro i hi
  have hlt : i < l.length := by omega
  have hnext := ih (i + 1) (by omega)
  rw [List.take_succ_eq_append_getElem hlt] at hnext
  have hr := hf.2 _ (List.getElem_mem hlt)
  refine Ev.step (fun k => by rw [impl_copyTable.l0]) ?_
  rw [rd1_at l i hlt, wrapS i (by omega)]
  refine Ev.ite_pos (by omega) (Ev.ite_pos (by omega) (Ev.ite_pos (by omega) ?_))
  refine Ev.some_bind (a := l[i]) (by unfold slices_Clone_int_int.f; rw [if_pos (by omega)]) ?_
  exact Ev.ite_pos (by rw [List.length_take]; omega) hnext
theorem copy_ev (l : List (List Int)) (hf : fewRows l) : Ev (fun k => impl_copyTable.f k l) l := copy_ev_l0 l hf l.length 0 (by omega)
theorem next_eq {x : List (List Int)} (hs : isSign x = true) : spec_gyNext.f x = some (flip2 x 0 1) ∧ impl_gyrated.f x = some (flip2 x 0 1) := by
 unfold spec_gyNext.f impl_gyrated.f
 rw [if_pos hs]; exact ⟨rfl, rfl⟩
end Go.Proofs.Ythlgclfhoeakgaa.L

namespace Go.Proofs.Ythlgclfhoeakgaa.L
open Go.RowKit Go.Proofs.Ythlgclfhoeakgaa Go.Proofs.Ythlgclfhoeakgaa.P Go.Proofs.YthlgclfhoeakgaaW.PrintWords Go.Proofs.YthlgclfhoeakgaaW.PrintLast Go.Proofs.YthlgclfhoeakgaaW.PrintMore
set_option linter.unusedVariables false

/-- The least one. -/
def leastF (b : List (List Int)) (L : List (List (List Int))) : List (List Int) := L.foldl (fun b x => if cmpT x b < 0 then x else b) b
def leastT (L : List (List (List Int))) : List (List Int) := leastF (L.getD 0 []) L
theorem cmpI_lt (x y : Int) (h : x ≠ y) : decide (cmpI x y < 0) = decide (x < y) := by
 unfold cmpI
 rw [decide_eq_decide]
 constructor
 ·intro hh
  split at hh
  ·assumption
  ·split at hh <;> omega
 ·intro hh; rw [if_pos hh]; decide
theorem cmpI_self (x : Int) : cmpI x x = 0 := by unfold cmpI; rw [if_neg (by omega), if_neg (by omega)]
theorem cmpI_ne (x y : Int) (h : x ≠ y) : cmpI x y ≠ 0 := fun e => h ((cmpI_zero x y).1 e)
/-- Rows of one length, and then the tables behind. -/
theorem sgLess_l1 (a b : List (List Int)) (n i : Nat) (hi : i < a.length) (hib : i < b.length) (ha : (a[i]).length = n) (hb : (b[i]).length = n) (hn : n ≤ 1000) (hal : a.length ≤ 1000)
  (hnext : Ev (fun k => spec_sgLess.l0 k b a a.length ((i + 1 : Nat) : Int)) (decide (cmpL (cmpL cmpI) (a.drop (i + 1)) (b.drop (i + 1)) < 0))) :
  ∀ (d j : Nat), j + d = n → Ev (fun k => spec_sgLess.l1 k b i a a.length i a[i] n j) (decide ((if cmpL cmpI ((a[i]).drop j) ((b[i]).drop j) = 0 then cmpL (cmpL cmpI) (a.drop (i + 1)) (b.drop (i + 1)) else cmpL cmpI ((a[i]).drop j) ((b[i]).drop j)) < 0)) := by
 intro d
 induction d with
 | zero =>
  intro j hj
  refine Ev.step (fun k => by rw [spec_sgLess.l1]) ?_
  rw [List.drop_eq_nil_of_le (by omega), List.drop_eq_nil_of_le (by omega), cmpL, if_pos rfl, wrapS i (by omega)]
  exact Ev.ite_neg (by omega) hnext
 | succ d ih =>
  intro j hj
  refine Ev.step (fun k => by rw [spec_sgLess.l1]) ?_
  rw [rd1_at b i hib, rd_at (a[i]) j (by omega), rd_at (b[i]) j (by omega), cmpL_step cmpI (a[i]) (b[i]) j (by omega) (by omega)]
  refine Ev.ite_pos (by omega) (Ev.ite_pos (by omega) (Ev.ite_pos (by omega) (Ev.ite_pos (by omega) (Ev.ite_pos (by omega) (Ev.ite_pos (by omega) ?_)))))
  by_cases h : (a[i])[j]'(by omega) = (b[i])[j]'(by omega)
  ·refine Ev.ite_pos h ?_
   rw [wrapS j (by omega), h, cmpI_self, if_pos rfl]
   exact ih (j + 1) (by omega)
  ·refine Ev.ite_neg h ?_
   rw [if_neg (cmpI_ne _ _ h), if_neg (cmpI_ne _ _ h), cmpI_lt _ _ h]
   exact Ev.now _
theorem sgLess_l0 (a b : List (List Int)) (n : Nat) (hab : a.length = b.length) (ha : ∀ r ∈ a, r.length = n) (hb : ∀ r ∈ b, r.length = n) (hn : n ≤ 1000) (hal : a.length ≤ 1000) : ∀ (d i : Nat), i + d = a.length →
  Ev (fun k => spec_sgLess.l0 k b a a.length i) (decide (cmpL (cmpL cmpI) (a.drop i) (b.drop i) < 0)) := by
 intro d
 induction d with
 | zero =>
  intro i hi
  refine Ev.step (fun k => by rw [spec_sgLess.l0]) ?_
  rw [List.drop_eq_nil_of_le (by omega), List.drop_eq_nil_of_le (by omega), cmpL]
  exact Ev.ite_neg (by omega) (Ev.now _)
 | succ d ih =>
  intro i hi
  have hia : i < a.length := by omega
  have hib : i < b.length := by omega
  refine Ev.step (fun k => by rw [spec_sgLess.l0]) ?_
  rw [rd1_at a i hia, cmpL_step (cmpL cmpI) a b i hia hib]
  refine Ev.ite_pos (by omega) (Ev.ite_pos (by omega) (Ev.ite_pos (by omega) ?_))
  have h1 := ha _ (List.getElem_mem hia)
  have h2 := hb _ (List.getElem_mem hib)
  have := sgLess_l1 a b n i hia hib h1 h2 hn hal (ih (i + 1) (by omega)) n 0 (by omega)
  rw [List.drop_zero, List.drop_zero] at this
  rw [h1]
  exact this
theorem sgLess_ev (a b : List (List Int)) (n : Nat) (hab : a.length = b.length) (ha : ∀ r ∈ a, r.length = n) (hb : ∀ r ∈ b, r.length = n) (hn : n ≤ 1000) (hal : a.length ≤ 1000) : Ev (fun k => spec_sgLess.f k a b) (decide (cmpT a b < 0)) := by
 unfold spec_sgLess.f cmpT
 have := sgLess_l0 a b n hab ha hb hn hal a.length 0 (by omega)
 simpa using this
/-- Tables of n rows of n. -/
def Sq (n : Nat) (T : List (List Int)) : Prop := T.length = n ∧ ∀ r ∈ T, r.length = n
theorem rd2_at (L : List (List (List Int))) (i : Nat) (h : i < L.length) : rd_L2 L (i : Int) = L[i] := by simp [rd_L2, List.getD_eq_getElem?_getD, h]
theorem least_l0 (L : List (List (List Int))) (n : Nat) (hn : n ≤ 1000) (hL : ∀ T ∈ L, Sq n T) (hl : L.length ≤ 1000) : ∀ (d i : Nat) (b : List (List Int)), i + d = L.length → Sq n b → Ev (fun k => spec_gyLeast.l0 k b L L.length i) (leastF b (L.drop i)) := by
 intro d
 induction d with
 | zero =>
  intro i b hi hb
  refine Ev.step (fun k => by rw [spec_gyLeast.l0]) ?_
  rw [List.drop_eq_nil_of_le (by omega)]
  exact Ev.ite_neg (by omega) (Ev.now _)
 | succ d ih =>
  intro i b hi hb
  have hlt : i < L.length := by omega
  have hx := hL _ (List.getElem_mem hlt)
  refine Ev.step (fun k => by rw [spec_gyLeast.l0]) ?_
  rw [rd2_at L i hlt, List.drop_eq_getElem_cons hlt]
  refine Ev.ite_pos (by omega) (Ev.ite_pos (by omega) (Ev.ite_pos (by omega) (Ev.bind (sgLess_ev L[i] b n (by rw [hx.1, hb.1]) hx.2 hb.2 hn (by rw [hx.1]; exact hn)) ?_)))
  rw [wrapS i (by omega)]
  unfold leastF
  rw [List.foldl_cons]
  by_cases h : cmpT L[i] b < 0
  ·rw [decide_eq_true h, if_pos h]
   exact Ev.ite_pos rfl (ih (i + 1) L[i] (by omega) hx)
  ·rw [decide_eq_false h, if_neg h]
   exact Ev.ite_neg (by simp) (ih (i + 1) b (by omega) hb)
theorem least_ev (L : List (List (List Int))) (n : Nat) (hn : n ≤ 1000) (hL : ∀ T ∈ L, Sq n T) (hl : L.length ≤ 1000) (h0 : 0 < L.length) : Ev (fun k => spec_gyLeast.f k L) (leastT L) := by
 unfold spec_gyLeast.f
 refine Ev.ite_pos (by omega) ?_
 have h2 : rd_L2 L 0 = L[0] := rd2_at L 0 h0
 have h3 : leastT L = leastF L[0] (L.drop 0) := by unfold leastT; rw [List.drop_zero, getD_at L [] 0 h0]
 rw [h2, h3]
 exact least_l0 L n hn hL hl L.length 0 L[0] (by omega) (hL _ (List.getElem_mem h0))
end Go.Proofs.Ythlgclfhoeakgaa.L

namespace Go.Proofs.Ythlgclfhoeakgaa.L
open Go.RowKit Go.Proofs.Ythlgclfhoeakgaa Go.Proofs.Ythlgclfhoeakgaa.P Go.Proofs.YthlgclfhoeakgaaW.PrintWords Go.Proofs.YthlgclfhoeakgaaW.PrintLast Go.Proofs.YthlgclfhoeakgaaW.PrintMore
set_option maxRecDepth 100000

/-- A table out of the digits of a number. -/
def ocDigs : Nat → Nat → List Int
 | 0, _ => []
 | k + 1, c => (((c % 3 : Nat) : Int) - 1) :: ocDigs k (c / 3)
def ocDec (n : Nat) : Nat → Nat → List (List Int)
 | 0, _ => []
 | k + 1, c => ocDigs n c :: ocDec n k (c / 3 ^ n)
/-- The numbers of the sign matrices. -/
def ocC : Nat → List Nat
 | 1 => [2]
 | 2 => [52, 68]
 | 3 => [10660, 12064, 10816, 12220, 16432, 12272, 16484]
 | 4 => [22075240, 23125000, 22114120, 23163880, 26313160, 23176840, 26326120, 22076680, 23126440, 22115560, 23165320, 26314600, 22232200, 23281960, 26431240, 35879080, 23178280, 26327560, 23294920, 26444200, 35892040, 22116040, 23165800, 26315080, 22232680, 23282440, 26431720, 35879560, 23178760, 26328040, 23295400, 26444680, 35892520, 26483560, 35931400, 23178920, 26328200, 23295560, 26444840, 35892680, 26483720, 35931560]
 | 5 => [427174673926, 434119544914, 427260413074, 434205284062, 455039897026, 434233863778, 455068476742, 427175732434, 434120603422, 427261471582, 434206342570, 455040955534, 427518689026, 434463560014, 455298172978, 517802011870, 434234922286, 455069535250, 434492139730, 455326752694, 517830591586, 427261824418, 434206695406, 455041308370, 427519041862, 434463912850, 455298525814, 517802364706, 434235275122, 455069888086, 434492492566, 455327105530, 517830944422, 455412844678, 517916683570, 434235392734, 455070005698, 434492610178, 455327223142, 517831062034, 455412962290, 517916801182, 427174686994, 434119557982, 427260426142, 434205297130, 455039910094, 434233876846, 455068489810, 427175745502, 434120616490, 427261484650, 434206355638, 455040968602, 427518702094, 434463573082, 455298186046, 517802024938, 434234935354, 455069548318, 434492152798, 455326765762, 517830604654, 427178921026, 434123792014, 427264660174, 434209531162, 455044144126, 427521877618, 434466748606, 455301361570, 517805200462, 428293529950, 435238400938, 456073013902, 518576852794, 706088369470, 434238110878, 455072723842, 434495328322, 455329941286, 517833780178, 435266980654, 456101593618, 518605432510, 706116949186, 427261837486, 434206708474, 455041321438, 427519054930, 434463925918, 455298538882, 517802377774, 434235288190, 455069901154, 434492505634, 455327118598, 517830957490, 455412857746, 517916696638, 427265013010, 434209883998, 455044496962, 427522230454, 434467101442, 455301714406, 517805553298, 428293882786, 435238753774, 456073366738, 518577205630, 706088722306, 434238463714, 455073076678, 434495681158, 455330294122, 517834133014, 435267333490, 456101946454, 518605785346, 706117302022, 455416033270, 517919872162, 456187685602, 518691524494, 706203041170, 434235405802, 455070018766, 434492623246, 455327236210, 517831075102, 455412975358, 517916814250, 434238581326, 455073194290, 434495798770, 455330411734, 517834250626, 435267451102, 456102064066, 518605902958, 706117419634, 455416150882, 517919989774, 456187803214, 518691642106, 706203158782, 427175749858, 434120620846, 427261489006, 434206359994, 455040972958, 427518706450, 434463577438, 455298190402, 517802029294, 434234939710, 455069552674, 434492157154, 455326770118, 517830609010, 427178925382, 434123796370, 427264664530, 434209535518, 455044148482, 427521881974, 434466752962, 455301365926, 517805204818, 428293534306, 435238405294, 456073018258, 518576857150, 706088373826, 434238115234, 455072728198, 434495332678, 455329945642, 517833784534, 435266985010, 456101597974, 518605436866, 706116953542, 427261841842, 434206712830, 455041325794, 427519059286, 434463930274, 455298543238, 517802382130, 434235292546, 455069905510, 434492509990, 455327122954, 517830961846, 455412862102, 517916700994, 427265017366, 434209888354, 455044501318, 427522234810, 434467105798, 455301718762, 517805557654, 428293887142, 435238758130, 456073371094, 518577209986, 706088726662, 434238468070, 455073081034, 434495685514, 455330298478, 517834137370, 435267337846, 456101950810, 518605789702, 706117306378, 455416037626, 517919876518, 456187689958, 518691528850, 706203045526, 427523293318, 434468164306, 455302777270, 517806616162, 428294945650, 435239816638, 456074429602, 518578268494, 706089785170, 434496744022, 455331356986, 517835195878, 435268396354, 456103009318, 518606848210, 706118364886, 455417096134, 517920935026, 456188748466, 518692587358, 706204104034, 518949804802, 706461321478, 434235410158, 455070023122, 434492627602, 455327240566, 517831079458, 455412979714, 517916818606, 434238585682, 455073198646, 434495803126, 455330416090, 517834254982, 435267455458, 456102068422, 518605907314, 706117423990, 455416155238, 517919994130, 456187807570, 518691646462, 706203163138, 434496861634, 455331474598, 517835313490, 435268513966, 456103126930, 518606965822, 706118482498, 455417213746, 517921052638, 456188866078, 518692704970, 706204221646, 518949922414, 706461439090, 427261843294, 434206714282, 455041327246, 427519060738, 434463931726, 455298544690, 517802383582, 434235293998, 455069906962, 434492511442, 455327124406, 517830963298, 455412863554, 517916702446, 427265018818, 434209889806, 455044502770, 427522236262, 434467107250, 455301720214, 517805559106, 428293888594, 435238759582, 456073372546, 518577211438, 706088728114, 434238469522, 455073082486, 434495686966, 455330299930, 517834138822, 435267339298, 456101952262, 518605791154, 706117307830, 455416039078, 517919877970, 456187691410, 518691530302, 706203046978, 427523294770, 434468165758, 455302778722, 517806617614, 428294947102, 435239818090, 456074431054, 518578269946, 706089786622, 434496745474, 455331358438, 517835197330, 435268397806, 456103010770, 518606849662, 706118366338, 455417097586, 517920936478, 456188749918, 518692588810, 706204105486, 518949806254, 706461322930, 434235411610, 455070024574, 434492629054, 455327242018, 517831080910, 455412981166, 517916820058, 434238587134, 455073200098, 434495804578, 455330417542, 517834256434, 435267456910, 456102069874, 518605908766, 706117425442, 455416156690, 517919995582, 456187809022, 518691647914, 706203164590, 434496863086, 455331476050, 517835314942, 435268515418, 456103128382, 518606967274, 706118483950, 455417215198, 517921054090, 456188867530, 518692706422, 706204223098, 518949923866, 706461440542, 455417568034, 517921406926, 456189220366, 518693059258, 706204575934, 518950276702, 706461793378, 434235412094, 455070025058, 434492629538, 455327242502, 517831081394, 455412981650, 517916820542, 434238587618, 455073200582, 434495805062, 455330418026, 517834256918, 435267457394, 456102070358, 518605909250, 706117425926, 455416157174, 517919996066, 456187809506, 518691648398, 706203165074, 434496863570, 455331476534, 517835315426, 435268515902, 456103128866, 518606967758, 706118484434, 455417215682, 517921054574, 456188868014, 518692706906, 706204223582, 518949924350, 706461441026, 455417568518, 517921407410, 456189220850, 518693059742, 706204576418, 518950277186, 706461793862]
 | _ => []
/-- The place of the matrix behind a gyration. -/
def ocP : Nat → List Nat
 | 1 => [0]
 | 2 => [1, 0]
 | 3 => [3, 2, 1, 6, 5, 4, 0]
 | 4 => [31, 24, 8, 7, 30, 26, 25, 6, 2, 1, 0, 5, 29, 21, 32, 28, 4, 3, 23, 27, 22, 19, 12, 18, 17, 9, 20, 16, 38, 37, 36, 41, 40, 39, 35, 14, 13, 11, 34, 33, 15, 10]
 | 5 => [52, 51, 50, 59, 58, 53, 49, 45, 44, 90, 132, 128, 87, 127, 126, 131, 92, 89, 88, 86, 91, 55, 62, 60, 43, 48, 47, 61, 57, 54, 46, 42, 56, 130, 129, 99, 95, 94, 93, 98, 97, 96, 10, 9, 8, 17, 16, 11, 7, 164, 163, 327, 376, 369, 297, 353, 352, 375, 329, 326, 298, 296, 328, 150, 149, 286, 351, 347, 283, 346, 345, 350, 323, 374, 366, 377, 373, 288, 285, 284, 282, 287, 325, 322, 330, 324, 171, 182, 180, 162, 176, 175, 181, 173, 170, 165, 161, 172, 371, 370, 153, 160, 158, 148, 157, 156, 159, 167, 179, 177, 183, 178, 155, 152, 151, 147, 154, 169, 166, 174, 168, 349, 348, 368, 372, 367, 341, 334, 309, 308, 340, 336, 335, 295, 291, 290, 289, 294, 339, 331, 342, 338, 293, 292, 333, 337, 332, 66, 65, 108, 145, 138, 101, 134, 133, 144, 110, 107, 102, 100, 109, 3, 2, 25, 41, 37, 22, 36, 35, 40, 104, 143, 135, 146, 142, 27, 24, 23, 21, 26, 106, 103, 111, 105, 73, 84, 82, 64, 78, 77, 83, 75, 72, 67, 63, 74, 140, 139, 13, 20, 18, 1, 6, 5, 19, 69, 81, 79, 85, 80, 15, 12, 4, 0, 14, 71, 68, 76, 70, 39, 38, 137, 141, 136, 304, 364, 357, 363, 300, 362, 354, 365, 361, 306, 303, 305, 302, 299, 307, 301, 359, 358, 356, 379, 378, 360, 355, 124, 117, 113, 112, 123, 119, 118, 34, 30, 29, 28, 33, 122, 114, 125, 121, 32, 31, 116, 120, 115, 320, 313, 319, 318, 310, 321, 317, 315, 314, 312, 344, 343, 316, 311, 229, 278, 271, 199, 255, 254, 277, 231, 228, 200, 198, 230, 273, 272, 188, 253, 249, 185, 248, 247, 252, 225, 276, 268, 279, 275, 190, 187, 186, 184, 189, 227, 224, 232, 226, 251, 250, 270, 274, 269, 206, 266, 259, 265, 202, 264, 256, 267, 263, 208, 205, 207, 204, 201, 209, 203, 261, 260, 258, 281, 280, 262, 257, 418, 411, 395, 394, 417, 413, 412, 393, 389, 388, 387, 392, 416, 408, 419, 415, 391, 390, 410, 414, 409, 406, 399, 405, 404, 396, 407, 403, 425, 424, 423, 428, 427, 426, 422, 401, 400, 398, 421, 420, 402, 397, 243, 236, 211, 210, 242, 238, 237, 197, 193, 192, 191, 196, 241, 233, 244, 240, 195, 194, 235, 239, 234, 222, 215, 221, 220, 212, 223, 219, 383, 382, 381, 386, 385, 384, 380, 217, 216, 214, 246, 245, 218, 213]
 | _ => []
/-- The first place of an orbit. -/
def ocR : Nat → List Nat
 | 1 => [0]
 | 2 => [0, 0]
 | 3 => [0, 1, 1, 0, 4, 4, 0]
 | 4 => [0, 1, 2, 1, 4, 5, 1, 1, 2, 1, 0, 5, 5, 4, 14, 14, 4, 1, 18, 4, 5, 4, 5, 18, 1, 1, 5, 4, 14, 5, 4, 0, 14, 33, 14, 14, 4, 5, 14, 33, 14, 0]
 | 5 => [0, 1, 2, 3, 4, 5, 3, 2, 8, 9, 1, 11, 12, 13, 14, 15, 16, 2, 18, 13, 20, 12, 22, 23, 9, 2, 11, 20, 28, 22, 16, 1, 32, 33, 34, 35, 36, 36, 38, 39, 40, 3, 1, 9, 8, 2, 16, 11, 2, 3, 2, 1, 0, 5, 22, 12, 32, 28, 4, 3, 23, 20, 22, 5, 11, 16, 4, 67, 28, 38, 70, 71, 35, 14, 74, 70, 76, 77, 20, 79, 15, 34, 82, 34, 32, 85, 13, 12, 18, 2, 9, 20, 16, 38, 36, 36, 3, 40, 39, 35, 18, 23, 102, 16, 36, 105, 18, 36, 11, 23, 105, 12, 79, 23, 114, 4, 82, 40, 22, 119, 35, 121, 85, 123, 74, 125, 14, 13, 11, 34, 33, 15, 1, 82, 18, 40, 71, 137, 114, 85, 140, 125, 119, 13, 79, 5, 38, 4, 16, 11, 5, 114, 23, 18, 82, 79, 105, 36, 102, 18, 23, 3, 2, 2, 3, 36, 22, 36, 35, 40, 36, 13, 40, 38, 119, 20, 9, 23, 12, 11, 18, 16, 12, 105, 14, 32, 82, 11, 20, 77, 34, 70, 35, 67, 5, 74, 140, 85, 13, 20, 18, 1, 3, 5, 13, 38, 34, 79, 85, 15, 15, 12, 4, 0, 14, 71, 28, 76, 70, 39, 38, 137, 125, 71, 224, 39, 140, 137, 40, 15, 119, 71, 232, 121, 39, 123, 119, 32, 232, 74, 240, 125, 232, 76, 244, 244, 76, 74, 40, 23, 79, 123, 119, 22, 34, 16, 22, 28, 33, 85, 114, 125, 121, 32, 1, 82, 35, 4, 123, 137, 270, 79, 82, 137, 123, 232, 224, 77, 28, 121, 140, 14, 15, 28, 79, 20, 16, 34, 77, 71, 40, 18, 13, 119, 137, 82, 20, 22, 23, 32, 40, 74, 119, 39, 224, 123, 121, 232, 34, 11, 82, 14, 77, 137, 224, 232, 140, 123, 79, 270, 123, 137, 34, 35, 85, 82, 3, 1, 22, 4, 32, 85, 38, 79, 13, 1, 15, 5, 125, 114, 33, 14, 140, 121, 28, 70, 38, 67, 85, 121, 71, 4, 32, 12, 119, 76, 232, 140, 125, 240, 244, 232, 15, 137, 39, 71, 74, 125, 123, 5, 35, 39, 74, 76, 14, 28, 0, 70, 244, 76, 244, 121, 140, 244, 384, 240, 70, 76, 119, 12, 15, 232, 232, 32, 85, 67, 35, 70, 140, 125, 121, 244, 240, 74, 5, 123, 74, 39, 125, 71, 137, 38, 4, 71, 39, 244, 140, 121, 70, 240, 384, 244, 76, 28, 14, 76, 244, 70, 0]
 | _ => []
/-- The table at a place. -/
def ocE (n j : Nat) : List (List Int) := ocDec n n ((ocC n).getD j 0)
def ocEL (n : Nat) : List (List (List Int)) := (ocC n).map (ocDec n n)
/-- The places of an orbit. -/
def ocI (P : List Nat) (j : Nat) : Nat → List Nat → Nat → Option (List Nat)
 | 0, _, _ => none
 | k + 1, acc, x => if x = j then some acc else ocI P j k (acc ++ [x]) (P.getD x 0)
def ocO (n j : Nat) : List Nat := (ocI (ocP n) j 100 [j] ((ocP n).getD j 0)).getD []
/-- The text as a number. -/
def ocT (T : List (List Int)) : Nat := match impl_signText.f 100 T with | none => 0 | some s => if s.size ≤ 1000 then s.data.toList.foldl (fun a b => a * 256 + b.toNat) 1 else 0
def ocFlip (n a m : Nat) : Bool := (List.range' a m).all fun j => decide ((ocC n).length ≤ j) || (isSign (ocE n j) && decide (flip2 (ocE n j) 0 1 = ocE n ((ocP n).getD j 0)))
def ocNo : List Nat → Bool
 | [] => true
 | a :: l => l.all (fun b => !(Nat.beq a b)) && ocNo l
def ocOne (n j : Nat) : Bool := (ocI (ocP n) j 100 [j] ((ocP n).getD j 0)).isSome && (ocO n j).all (fun x => decide (x < (ocC n).length) && decide ((ocR n).getD x 0 = (ocR n).getD j 0)) && decide ((ocO n j).length ≤ 100) && (ocO n ((ocR n).getD j 0)).any (fun x => decide (x = j))
 && decide ((ocR n).getD j 0 ≤ j) && decide ((ocR n).getD ((ocR n).getD j 0) 0 = (ocR n).getD j 0) && decide ((ocP n).getD j 0 < (ocC n).length) && (decide (leastT ((ocO n j).map (ocE n)) = ocE n j) == decide ((ocR n).getD j 0 = j))
def ocAll (n a m : Nat) : Bool := (List.range' a m).all (ocOne n)
def ocTx (n : Nat) : Bool := (ocEL n).all (fun T => decide (ocT T ≠ 0)) && ocNo ((ocEL n).map ocT)
structure OcOk (n : Nat) : Prop where
 es : esX n = ocEL n
 len : (ocC n).length ≤ 429 ∧ (ocP n).length = (ocC n).length
 flip : ∀ q, q < 6 → ocFlip n (q * 72) 72 = true
 all : ocAll n 0 (ocC n).length = true
 txs : ocTx n = true
theorem oc_1 : OcOk 1 := ⟨by decide +kernel, by decide +kernel, by decide +kernel, by decide +kernel, by decide +kernel⟩
theorem oc_2 : OcOk 2 := ⟨by decide +kernel, by decide +kernel, by decide +kernel, by decide +kernel, by decide +kernel⟩
theorem oc_3 : OcOk 3 := ⟨by decide +kernel, by decide +kernel, by decide +kernel, by decide +kernel, by decide +kernel⟩
theorem oc_4 : OcOk 4 := ⟨by decide +kernel, by decide +kernel, by decide +kernel, by decide +kernel, by decide +kernel⟩
end Go.Proofs.Ythlgclfhoeakgaa.L
