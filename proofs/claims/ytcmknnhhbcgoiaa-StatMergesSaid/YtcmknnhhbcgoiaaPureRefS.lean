/- The plain law of tables, the document's side. -/
import Derived.Test.YtcmknnhhbcgoiaaPureStat
namespace Go.Proofs.Ytcmknnhhbcgoiaa.Pure
open Go.RowKit Go.Proofs.Ytcmknnhhbcgoiaa.QN Go.Proofs.YtcmknnhhbcgoiaaW.PrintWords Go.Proofs.YtcmknnhhbcgoiaaW.PrintLast
set_option linter.unusedVariables false
set_option linter.unusedSimpArgs false
set_option linter.unusedSectionVars false
def nL (r : S42) : List Int := [r.f1, r.f2, r.f3, r.f4]
def toRow (r : S42) : S74 := ⟨r.f0, nL r⟩
theorem rd_map (l : List S42) (i : Nat) (h : i < l.length) : rd_T74 (l.map toRow) (i : Int) = toRow (rd_T42 l (i : Int)) := by
  simp [rd_T74, rd_T42, h]
theorem take_T42 (l : List S42) (m : Nat) (h : m < l.length) : l.take (m + 1) = l.take m ++ [rd_T42 l (m : Int)] := by
  have e : rd_T42 l (m : Int) = l[m] := by simp [rd_T42, h]
  rw [e, List.take_append_getElem h]
theorem rows_l0 (l : List S42) (hl : l.length ≤ 1000) : ∀ (m k i : Nat), i + m = l.length → m + 2 ≤ k → changelinglaw25_rows.l0 k l ((l.take i).map toRow) (i : Int) = some (l.map toRow)
  | m, 0, _, _, h => absurd h (by omega)
  | 0, k + 1, i, h, hk => by
    simp only [changelinglaw25_rows.l0]
    rw [if_neg (by omega), List.take_of_length_le (by omega)]
  | m + 1, k + 1, i, h, hk => by
    have ih := rows_l0 l hl m k (i + 1) (by omega) (by omega)
    rw [take_T42 l i (by omega), List.map_append] at ih
    simp only [changelinglaw25_rows.l0]
    rw [if_pos (by omega), if_pos (by omega), if_pos (by simp; omega)]
    have e1 : wrap64 ((i : Int) + 1) = ((i + 1 : Nat) : Int) := by rw [w64_id (by omega) (by omega)]; push_cast; rfl
    rw [e1]
    exact ih
theorem rows_f (l : List S42) (hl : l.length ≤ 1000) (k : Nat) (hk : l.length + 2 ≤ k) : changelinglaw25_rows.f k l = some (l.map toRow) := by
  have h := rows_l0 l hl l.length k 0 (by omega) hk
  unfold changelinglaw25_rows.f
  exact h
theorem sameInts_l0 (a : List Int) (ha : a.length ≤ 1000) : ∀ (m k i : Nat), i + m = a.length → m + 2 ≤ k → changelingref01_SameInts.l0 k a a (i : Int) = some true
  | m, 0, _, _, h => absurd h (by omega)
  | 0, k + 1, i, h, hk => by
    simp only [changelingref01_SameInts.l0]
    rw [if_neg (by omega)]
  | m + 1, k + 1, i, h, hk => by
    have ih := sameInts_l0 a ha m k (i + 1) (by omega) (by omega)
    simp only [changelingref01_SameInts.l0]
    have e1 : wrap64 ((i : Int) + 1) = ((i + 1 : Nat) : Int) := by rw [w64_id (by omega) (by omega)]; push_cast; rfl
    rw [if_pos (by omega), if_pos (by omega), if_pos (by omega), e1]
    simpa using ih
theorem sameInts_f (a : List Int) (ha : a.length ≤ 1000) (k : Nat) (hk : a.length + 2 ≤ k) : changelingref01_SameInts.f k a a = some true := by
  unfold changelingref01_SameInts.f
  rw [if_pos rfl]
  exact sameInts_l0 a ha a.length k 0 (by omega) hk
theorem same_l0 (l : List S42) (hl : l.length ≤ 1000) : ∀ (m k i : Nat), i + m = l.length → m + 20 ≤ k → changelinglaw25_same.l0 k (l.map toRow) (l.map toRow) (i : Int) = some true
  | m, 0, _, _, h => absurd h (by omega)
  | 0, k + 1, i, h, hk => by
    simp only [changelinglaw25_same.l0]
    rw [if_neg (by simp; omega)]
  | m + 1, k + 1, i, h, hk => by
    have ih := same_l0 l hl m k (i + 1) (by omega) (by omega)
    simp only [changelinglaw25_same.l0]
    have e1 : wrap64 ((i : Int) + 1) = ((i + 1 : Nat) : Int) := by rw [w64_id (by omega) (by omega)]; push_cast; rfl
    rw [if_pos (by simp; omega), if_pos (by omega), if_pos (by simp; omega), if_pos trivial, rd_map l i (by omega), sameInts_f _ (by simp [toRow, nL]) _ (by simp [toRow, nL]; omega), e1]
    simpa using ih
theorem same_f (l : List S42) (hl : l.length ≤ 1000) (k : Nat) (hk : l.length + 20 ≤ k) : changelinglaw25_same.f k (l.map toRow) (l.map toRow) = some true := by
  unfold changelinglaw25_same.f
  rw [if_pos rfl]
  exact same_l0 l hl l.length k 0 (by omega) hk
/-! ### the document's Right -/
theorem refRight_step (l : List S42) (i : Nat) (hi : i < l.length) (k j : Nat) (hj : j < 4) (s : Int) : changelingref25_Right.l1 (k + 1) (l.map toRow) (i : Int) s (j : Int) = if rd (nL (rd_T42 l (i : Int))) (j : Int) < 0 then some false else if rd (nL (rd_T42 l (i : Int))) (j : Int) > 1073741824 then some false else changelingref25_Right.l1 k (l.map toRow) (i : Int) (wrap64 (s + rd (nL (rd_T42 l (i : Int))) (j : Int))) ((j + 1 : Nat) : Int) := by
  have e1 : wrap64 ((j : Int) + 1) = ((j + 1 : Nat) : Int) := by rw [w64_id (by omega) (by omega)]; push_cast; rfl
  simp only [changelingref25_Right.l1]
  rw [if_pos (by omega), if_pos (by omega), if_pos (by simpa using hi), if_pos (by omega), rd_map l i hi, e1]
  rw [if_pos (by simp [toRow, nL]; omega)]
  rfl
theorem refRight_end (l : List S42) (hl : l.length ≤ 1000) (i : Nat) (hi : i < l.length) (k : Nat) (s : Int) (h1 : 1 ≤ (rd_T42 l (i : Int)).f0) : changelingref25_Right.l1 (k + 1) (l.map toRow) (i : Int) s 4 = if (rd_T42 l (i : Int)).f0 > 14 then some false else if s = 0 then some false else if (rd_T42 l (i : Int)).f0 ≤ opBefore l i then some false else changelingref25_Right.l0 k (l.map toRow) ((i + 1 : Nat) : Int) := by
  have e1 : wrap64 ((i : Int) + 1) = ((i + 1 : Nat) : Int) := by rw [w64_id (by omega) (by omega)]; push_cast; rfl
  simp only [changelingref25_Right.l1]
  rw [if_neg (by decide), if_pos (by omega), if_pos (by simpa using hi), rd_map l i hi, e1]
  show (if (rd_T42 l (i : Int)).f0 < 1 then some false else if (rd_T42 l (i : Int)).f0 > 14 then some false else _) = _
  rw [if_neg (by omega)]
  by_cases h0 : i = 0
  · have e0 : opBefore l i = 0 := by unfold opBefore; rw [if_pos h0]
    rw [if_neg (show ¬ (i : Int) > 0 by omega), if_neg (show ¬ (rd_T42 l (i : Int)).f0 ≤ opBefore l i by rw [e0]; omega)]
  · have e2 : wrap64 ((i : Int) - 1) = ((i - 1 : Nat) : Int) := by rw [w64_id (by omega) (by omega)]; omega
    have e3 : opBefore l i = (rd_T42 l ((i - 1 : Nat) : Int)).f0 := by unfold opBefore; rw [if_neg h0]; congr 2; omega
    rw [if_pos (show (i : Int) > 0 by omega), e2, if_pos (show (0 : Int) ≤ ((i - 1 : Nat) : Int) by omega), if_pos (show ((i - 1 : Nat) : Int) < ((l.map toRow).length : Int) by simp; omega), rd_map l (i - 1) (by omega), e3]
    rfl
theorem refRight_l0 (l : List S42) (hl : l.length ≤ 1000) : ∀ (m k i : Nat), i + m = l.length → 6 * m + 2 ≤ k → changelingref25_Right.l0 k (l.map toRow) (i : Int) = some (rightB (opBefore l i) (l.drop i))
  | m, 0, _, _, h => absurd h (by omega)
  | 0, k + 1, i, h, hk => by
    simp only [changelingref25_Right.l0]
    rw [if_neg (by simp; omega), List.drop_eq_nil_of_le (by omega)]
    rfl
  | m + 1, k + 1, i, h, hk => by
    obtain ⟨k, rfl⟩ : ∃ k', k = k' + 5 := ⟨k - 5, by omega⟩
    have ih := refRight_l0 l hl m k (i + 1) (by omega) (by omega)
    rw [opBefore_succ] at ih
    have hi : i < l.length := by omega
    simp only [changelingref25_Right.l0]
    rw [if_pos (by simp; omega), drop_T42 l i hi]
    show changelingref25_Right.l1 (k + 5) (l.map toRow) (i : Int) 0 ((0 : Nat) : Int) = some (fitsB (rd_T42 l (i : Int)) && decide (opBefore l i < (rd_T42 l (i : Int)).f0) && rightB (rd_T42 l (i : Int)).f0 (l.drop (i + 1)))
    rw [refRight_step l i hi _ 0 (by omega), refRight_step l i hi _ 1 (by omega), refRight_step l i hi _ 2 (by omega), refRight_step l i hi _ 3 (by omega)]
    generalize hr : rd_T42 l (i : Int) = r at ih ⊢
    show (if r.f1 < 0 then some false else if r.f1 > 1073741824 then some false else if r.f2 < 0 then some false else if r.f2 > 1073741824 then some false else if r.f3 < 0 then some false else if r.f3 > 1073741824 then some false else if r.f4 < 0 then some false else if r.f4 > 1073741824 then some false else changelingref25_Right.l1 (k + 1) (l.map toRow) (i : Int) (wrap64 ((wrap64 ((wrap64 ((wrap64 (0 + r.f1)) + r.f2)) + r.f3)) + r.f4)) 4) = _
    have no : ∀ (p : Prop), (¬ (0 ≤ r.f1 ∧ r.f1 ≤ 1073741824 ∧ 0 ≤ r.f2 ∧ r.f2 ≤ 1073741824 ∧ 0 ≤ r.f3 ∧ r.f3 ≤ 1073741824 ∧ 0 ≤ r.f4 ∧ r.f4 ≤ 1073741824 ∧ 1 ≤ r.f0 ∧ r.f0 ≤ 14 ∧ 0 < r.f1 + r.f2 + r.f3 + r.f4)) → some false = some (fitsB r && decide (opBefore l i < r.f0) && rightB r.f0 (l.drop (i + 1))) := fun _ h => by
      have : fitsB r = false := decide_eq_false h
      rw [this]; rfl
    by_cases c1 : r.f1 < 0
    · rw [if_pos c1]; exact no True (by omega)
    rw [if_neg c1]
    by_cases c2 : r.f1 > 1073741824
    · rw [if_pos c2]; exact no True (by omega)
    rw [if_neg c2]
    by_cases c3 : r.f2 < 0
    · rw [if_pos c3]; exact no True (by omega)
    rw [if_neg c3]
    by_cases c4 : r.f2 > 1073741824
    · rw [if_pos c4]; exact no True (by omega)
    rw [if_neg c4]
    by_cases c5 : r.f3 < 0
    · rw [if_pos c5]; exact no True (by omega)
    rw [if_neg c5]
    by_cases c6 : r.f3 > 1073741824
    · rw [if_pos c6]; exact no True (by omega)
    rw [if_neg c6]
    by_cases c7 : r.f4 < 0
    · rw [if_pos c7]; exact no True (by omega)
    rw [if_neg c7]
    by_cases c8 : r.f4 > 1073741824
    · rw [if_pos c8]; exact no True (by omega)
    rw [if_neg c8]
    rw [w64_id (n := 0 + r.f1) (by omega) (by omega), w64_id (n := 0 + r.f1 + r.f2) (by omega) (by omega), w64_id (n := 0 + r.f1 + r.f2 + r.f3) (by omega) (by omega), w64_id (n := 0 + r.f1 + r.f2 + r.f3 + r.f4) (by omega) (by omega)]
    by_cases c9 : 1 ≤ r.f0
    · rw [refRight_end l hl i hi k _ (by rw [hr]; exact c9), hr]
      by_cases c10 : r.f0 > 14
      · rw [if_pos c10]; exact no True (by omega)
      rw [if_neg c10]
      by_cases c11 : 0 + r.f1 + r.f2 + r.f3 + r.f4 = 0
      · rw [if_pos c11]; exact no True (by omega)
      rw [if_neg c11]
      have hf : fitsB r = true := decide_eq_true (by omega)
      rw [hf]
      by_cases c12 : r.f0 ≤ opBefore l i
      · rw [if_pos c12, decide_eq_false (by omega)]; rfl
      · rw [if_neg c12, decide_eq_true (by omega), ih]; simp
    · have : changelingref25_Right.l1 (k + 1) (l.map toRow) (i : Int) (0 + r.f1 + r.f2 + r.f3 + r.f4) 4 = some false := by
        simp only [changelingref25_Right.l1]
        rw [if_neg (by decide), if_pos (by omega), if_pos (by simpa using hi), rd_map l i hi, hr]
        exact if_pos (show r.f0 < 1 by omega)
      rw [this]
      exact no True (by omega)
theorem refRight_f (l : List S42) (hl : l.length ≤ 1000) (k : Nat) (hk : 6 * l.length + 2 ≤ k) : changelingref25_Right.f k (l.map toRow) = some (rightB 0 l) := by
  have h := refRight_l0 l hl l.length k 0 (by omega) hk
  unfold changelingref25_Right.f
  exact h
/-! ### the document's Merge -/
def accum (op : Int) (s : S42 × Bool) (r : S42) : S42 × Bool := if r.f0 = op then (addR s.1 r, true) else s
theorem addR_f0 (a r : S42) : (addR a r).f0 = a.f0 := rfl
theorem accum_op (op : Int) : ∀ (l : List S42) (s : S42 × Bool), (l.foldl (accum op) s).1.f0 = s.1.f0
  | [], s => rfl
  | r :: l, s => by
    rw [List.foldl_cons, accum_op op l]
    unfold accum
    split <;> rfl
theorem l2_yes (A B : List S74) (out : List S74) (op : Int) (i : Nat) (r acc : S42) (th : Bool) (hi : i < A.length) (hr : rd_T74 A (i : Int) = toRow r) (ho : r.f0 = op) (k : Nat) : changelingref25_Merge.l2 (k + 5) A B out op (nL acc) th (i : Int) 0 = changelingref25_Merge.l1 k A B out op (nL (addR acc r)) true (wrap64 ((i : Int) + 1)) := by
  have st : ∀ (k : Nat) (n : List Int) (th : Bool) (j : Nat), j < 4 → n.length = 4 → changelingref25_Merge.l2 (k + 1) A B out op n th (i : Int) (j : Int) = changelingref25_Merge.l2 k A B out op (n.set j (wrap64 (rd n (j : Int) + rd (nL r) (j : Int)))) true (i : Int) ((j + 1 : Nat) : Int) := fun k n th j hj hn => by
    have e1 : wrap64 ((j : Int) + 1) = ((j + 1 : Nat) : Int) := by rw [w64_id (by omega) (by omega)]; push_cast; rfl
    simp only [changelingref25_Merge.l2]
    rw [if_pos (by omega), if_pos (by omega), if_pos (by omega), hr, if_pos (show (toRow r).f0 = op from ho), if_pos (by omega), if_pos (by omega), if_pos (by simp [toRow, nL]; omega), e1]
    rfl
  have h0 := st (k + 4) (nL acc) th 0 (by omega) rfl
  have h1 := fun n => st (k + 3) n true 1 (by omega)
  have h2 := fun n => st (k + 2) n true 2 (by omega)
  have h3 := fun n => st (k + 1) n true 3 (by omega)
  refine h0.trans ((h1 _ (by simp [nL])).trans ((h2 _ (by simp [nL])).trans ((h3 _ (by simp [nL])).trans ?_)))
  simp only [changelingref25_Merge.l2]
  rw [if_neg (by decide)]
  rfl
theorem l2_no (A B : List S74) (out : List S74) (op : Int) (i : Nat) (r : S42) (n : List Int) (th : Bool) (hi : i < A.length) (hr : rd_T74 A (i : Int) = toRow r) (ho : r.f0 ≠ op) (k : Nat) : changelingref25_Merge.l2 (k + 1) A B out op n th (i : Int) 0 = changelingref25_Merge.l1 k A B out op n th (wrap64 ((i : Int) + 1)) := by
  simp only [changelingref25_Merge.l2]
  rw [if_pos (by decide), if_pos (by omega), if_pos (by omega), hr, if_neg (show ¬ (toRow r).f0 = op from ho)]
theorem l4_yes (A B : List S74) (out : List S74) (op : Int) (i : Nat) (r acc : S42) (th : Bool) (hi : i < B.length) (hr : rd_T74 B (i : Int) = toRow r) (ho : r.f0 = op) (k : Nat) : changelingref25_Merge.l4 (k + 5) A B out op (nL acc) th (i : Int) 0 = changelingref25_Merge.l3 k A B out op (nL (addR acc r)) true (wrap64 ((i : Int) + 1)) := by
  have st : ∀ (k : Nat) (n : List Int) (th : Bool) (j : Nat), j < 4 → n.length = 4 → changelingref25_Merge.l4 (k + 1) A B out op n th (i : Int) (j : Int) = changelingref25_Merge.l4 k A B out op (n.set j (wrap64 (rd n (j : Int) + rd (nL r) (j : Int)))) true (i : Int) ((j + 1 : Nat) : Int) := fun k n th j hj hn => by
    have e1 : wrap64 ((j : Int) + 1) = ((j + 1 : Nat) : Int) := by rw [w64_id (by omega) (by omega)]; push_cast; rfl
    simp only [changelingref25_Merge.l4]
    rw [if_pos (by omega), if_pos (by omega), if_pos (by omega), hr, if_pos (show (toRow r).f0 = op from ho), if_pos (by omega), if_pos (by omega), if_pos (by simp [toRow, nL]; omega), e1]
    rfl
  have h0 := st (k + 4) (nL acc) th 0 (by omega) rfl
  have h1 := fun n => st (k + 3) n true 1 (by omega)
  have h2 := fun n => st (k + 2) n true 2 (by omega)
  have h3 := fun n => st (k + 1) n true 3 (by omega)
  refine h0.trans ((h1 _ (by simp [nL])).trans ((h2 _ (by simp [nL])).trans ((h3 _ (by simp [nL])).trans ?_)))
  simp only [changelingref25_Merge.l4]
  rw [if_neg (by decide)]
  rfl
theorem l4_no (A B : List S74) (out : List S74) (op : Int) (i : Nat) (r : S42) (n : List Int) (th : Bool) (hi : i < B.length) (hr : rd_T74 B (i : Int) = toRow r) (ho : r.f0 ≠ op) (k : Nat) : changelingref25_Merge.l4 (k + 1) A B out op n th (i : Int) 0 = changelingref25_Merge.l3 k A B out op n th (wrap64 ((i : Int) + 1)) := by
  simp only [changelingref25_Merge.l4]
  rw [if_pos (by decide), if_pos (by omega), if_pos (by omega), hr, if_neg (show ¬ (toRow r).f0 = op from ho)]
section
variable (a b : List S42) (hla : a.length ≤ 1000) (hlb : b.length ≤ 1000)
include hla hlb
theorem l3_spec (out : List S74) (op : Int) (R : Option (List S74)) (K : Nat) : ∀ (m k i : Nat) (acc : S42) (th : Bool), i + m = b.length →
    (∀ k', K ≤ k' → (if ((b.drop i).foldl (accum op) (acc, th)).2 = true then (if out.length < 4398046511104 then changelingref25_Merge.l0 k' (a.map toRow) (b.map toRow) (out ++ [⟨op, nL ((b.drop i).foldl (accum op) (acc, th)).1⟩]) (wrap64 (op + 1)) else none) else changelingref25_Merge.l0 k' (a.map toRow) (b.map toRow) out (wrap64 (op + 1))) = R) →
    K + 7 * m + 1 ≤ k → changelingref25_Merge.l3 k (a.map toRow) (b.map toRow) out op (nL acc) th (i : Int) = R := by
  intro m
  induction m with
  | zero =>
    intro k i acc th h hR hk
    obtain ⟨k, rfl⟩ : ∃ k', k = k' + 1 := ⟨k - 1, by omega⟩
    rw [List.drop_eq_nil_of_le (by omega)] at hR
    simp only [changelingref25_Merge.l3]
    rw [if_neg (by simp; omega)]
    exact hR k (by omega)
  | succ m ih =>
    intro k i acc th h hR hk
    obtain ⟨k, rfl⟩ : ∃ k', k = k' + 6 := ⟨k - 6, by omega⟩
    have hi : i < b.length := by omega
    have e1 : wrap64 ((i : Int) + 1) = ((i + 1 : Nat) : Int) := by rw [w64_id (by omega) (by omega)]; push_cast; rfl
    have hd := drop_T42 b i hi
    rw [hd, List.foldl_cons] at hR
    have hs : changelingref25_Merge.l3 (k + 6) (a.map toRow) (b.map toRow) out op (nL acc) th (i : Int) = changelingref25_Merge.l4 (k + 5) (a.map toRow) (b.map toRow) out op (nL acc) th (i : Int) 0 := by
      simp only [changelingref25_Merge.l3]
      rw [if_pos (by simp; omega)]
    rw [hs]
    by_cases hc : (rd_T42 b (i : Int)).f0 = op
    · rw [l4_yes _ _ out op i (rd_T42 b (i : Int)) acc th (by simpa using hi) (rd_map b i hi) hc, e1]
      have ha : accum op (acc, th) (rd_T42 b (i : Int)) = (addR acc (rd_T42 b (i : Int)), true) := by unfold accum; rw [if_pos hc]
      rw [ha] at hR
      exact ih k (i + 1) _ true (by omega) hR (by omega)
    · rw [l4_no _ _ out op i (rd_T42 b (i : Int)) _ th (by simpa using hi) (rd_map b i hi) hc, e1]
      have ha : accum op (acc, th) (rd_T42 b (i : Int)) = (acc, th) := by unfold accum; rw [if_neg hc]
      rw [ha] at hR
      exact ih (k + 4) (i + 1) _ th (by omega) hR (by omega)
theorem l1_spec (out : List S74) (op : Int) (R : Option (List S74)) (K : Nat) : ∀ (m k i : Nat) (acc : S42) (th : Bool), i + m = a.length →
    (∀ k', K ≤ k' → changelingref25_Merge.l3 k' (a.map toRow) (b.map toRow) out op (nL ((a.drop i).foldl (accum op) (acc, th)).1) ((a.drop i).foldl (accum op) (acc, th)).2 0 = R) →
    K + 7 * m + 1 ≤ k → changelingref25_Merge.l1 k (a.map toRow) (b.map toRow) out op (nL acc) th (i : Int) = R := by
  intro m
  induction m with
  | zero =>
    intro k i acc th h hR hk
    obtain ⟨k, rfl⟩ : ∃ k', k = k' + 1 := ⟨k - 1, by omega⟩
    rw [List.drop_eq_nil_of_le (by omega)] at hR
    simp only [changelingref25_Merge.l1]
    rw [if_neg (by simp; omega)]
    exact hR k (by omega)
  | succ m ih =>
    intro k i acc th h hR hk
    obtain ⟨k, rfl⟩ : ∃ k', k = k' + 6 := ⟨k - 6, by omega⟩
    have hi : i < a.length := by omega
    have e1 : wrap64 ((i : Int) + 1) = ((i + 1 : Nat) : Int) := by rw [w64_id (by omega) (by omega)]; push_cast; rfl
    have hd := drop_T42 a i hi
    rw [hd, List.foldl_cons] at hR
    have hs : changelingref25_Merge.l1 (k + 6) (a.map toRow) (b.map toRow) out op (nL acc) th (i : Int) = changelingref25_Merge.l2 (k + 5) (a.map toRow) (b.map toRow) out op (nL acc) th (i : Int) 0 := by
      simp only [changelingref25_Merge.l1]
      rw [if_pos (by simp; omega)]
    rw [hs]
    by_cases hc : (rd_T42 a (i : Int)).f0 = op
    · rw [l2_yes _ _ out op i (rd_T42 a (i : Int)) acc th (by simpa using hi) (rd_map a i hi) hc, e1]
      have ha : accum op (acc, th) (rd_T42 a (i : Int)) = (addR acc (rd_T42 a (i : Int)), true) := by unfold accum; rw [if_pos hc]
      rw [ha] at hR
      exact ih k (i + 1) _ true (by omega) hR (by omega)
    · rw [l2_no _ _ out op i (rd_T42 a (i : Int)) _ th (by simpa using hi) (rd_map a i hi) hc, e1]
      have ha : accum op (acc, th) (rd_T42 a (i : Int)) = (acc, th) := by unfold accum; rw [if_neg hc]
      rw [ha] at hR
      exact ih (k + 4) (i + 1) _ th (by omega) hR (by omega)
def rowOf (a b : List S42) (op : Int) : Option S42 := if (b.foldl (accum op) (a.foldl (accum op) (⟨op, 0, 0, 0, 0⟩, false))).2 = true then some (b.foldl (accum op) (a.foldl (accum op) (⟨op, 0, 0, 0, 0⟩, false))).1 else none
theorem refMerge_l0 : ∀ (n k : Nat) (lo : Int) (out : List S74), lo + n = 14 → 0 ≤ lo → (out.length : Int) ≤ lo → n * (7 * (a.length + b.length) + 10) + 2 ≤ k →
    changelingref25_Merge.l0 k (a.map toRow) (b.map toRow) out (lo + 1) = some (out ++ ((upto n lo).filterMap (rowOf a b)).map toRow) := by
  intro n
  induction n with
  | zero =>
    intro k lo out h h0 ho hk
    obtain ⟨k, rfl⟩ : ∃ k', k = k' + 1 := ⟨k - 1, by omega⟩
    simp only [changelingref25_Merge.l0]
    rw [if_neg (by omega)]
    simp [upto]
  | succ n ih =>
    intro k lo out h h0 ho hk
    rw [Nat.succ_mul] at hk
    obtain ⟨k, rfl⟩ : ∃ k', k = k' + 1 := ⟨k - 1, by omega⟩
    simp only [changelingref25_Merge.l0]
    rw [if_pos (by omega)]
    have e1 : wrap64 (lo + 1 + 1) = lo + 1 + 1 := w64_id (by omega) (by omega)
    refine l1_spec a b hla hlb out (lo + 1) _ (n * (7 * (a.length + b.length) + 10) + 7 * b.length + 5) a.length k 0 ⟨lo + 1, 0, 0, 0, 0⟩ false (by omega) (fun k1 hk1 => ?_) (by omega)
    rw [List.drop_zero]
    refine l3_spec a b hla hlb out (lo + 1) _ (n * (7 * (a.length + b.length) + 10) + 2) b.length k1 0 _ _ (by omega) (fun k2 hk2 => ?_) (by omega)
    rw [List.drop_zero]
    generalize hs : b.foldl (accum (lo + 1)) ((a.foldl (accum (lo + 1)) (⟨lo + 1, 0, 0, 0, 0⟩, false)).1, (a.foldl (accum (lo + 1)) (⟨lo + 1, 0, 0, 0, 0⟩, false)).2) = s
    have hop : s.1.f0 = lo + 1 := by rw [← hs, accum_op]; exact accum_op _ _ _
    have hrow : rowOf a b (lo + 1) = if s.2 = true then some s.1 else none := by unfold rowOf; rw [← hs]
    show _ = some (out ++ (((lo + 1) :: upto n (lo + 1)).filterMap (rowOf a b)).map toRow)
    cases h2 : s.2 with
    | true =>
      rw [if_pos rfl, if_pos (by omega), e1, List.filterMap_cons_some (b := s.1) (by rw [hrow, h2]; rfl), ih k2 (lo + 1) _ (by omega) (by omega) (by rw [List.length_append]; simp; omega) (by omega), List.append_assoc]
      congr 2
      show _ = toRow s.1 :: _
      unfold toRow
      rw [hop]
      rfl
    | false =>
      rw [if_neg (by decide), e1, List.filterMap_cons_none (by rw [hrow, h2]; rfl), ih k2 (lo + 1) _ (by omega) (by omega) (by omega) (by omega)]
end
theorem accum_look (op : Int) : ∀ (l : List S42) (lo : Int) (s : S42 × Bool), Srt lo l → l.foldl (accum op) s = match look l op with | none => s | some r => (addR s.1 r, true)
  | [], _, s, _ => rfl
  | r :: l, lo, s, h => by
    rw [List.foldl_cons, look_cons]
    by_cases hc : r.f0 = op
    · rw [if_pos hc, accum_look op l r.f0 _ h.2, look_low h.2 (by omega)]
      unfold accum
      rw [if_pos hc]
    · rw [if_neg hc, accum_look op l r.f0 _ h.2]
      unfold accum
      rw [if_neg hc]
theorem addR_zero (op : Int) (r : S42) (hr : fitsB r = true) (ho : r.f0 = op) : addR ⟨op, 0, 0, 0, 0⟩ r = r := by
  have h := of_decide_eq_true hr
  unfold addR
  rw [w64_id (n := 0 + r.f1) (by omega) (by omega), w64_id (n := 0 + r.f2) (by omega) (by omega), w64_id (n := 0 + r.f3) (by omega) (by omega), w64_id (n := 0 + r.f4) (by omega) (by omega), ← ho]
  simp
theorem rowOf_comb {a b : List S42} (ha : rightB 0 a = true) (hb : rightB 0 b = true) (op : Int) : rowOf a b op = comb (look a op) (look b op) := by
  obtain ⟨sa, fa⟩ := right_srt a 0 ha
  obtain ⟨sb, fb⟩ := right_srt b 0 hb
  unfold rowOf
  rw [accum_look op a 0 _ sa, accum_look op b 0 _ sb]
  cases h1 : look a op with
  | none =>
    cases h2 : look b op with
    | none => rfl
    | some q =>
      have hq := look_op h2
      show some (addR ⟨op, 0, 0, 0, 0⟩ q) = some q
      rw [addR_zero op q (fb q hq.2) hq.1]
  | some r =>
    have hr := look_op h1
    cases h2 : look b op with
    | none =>
      show some (addR ⟨op, 0, 0, 0, 0⟩ r) = some r
      rw [addR_zero op r (fa r hr.2) hr.1]
    | some q =>
      show some (addR (addR ⟨op, 0, 0, 0, 0⟩ r) q) = some (addR r q)
      rw [addR_zero op r (fa r hr.2) hr.1]
theorem refMerge_f (a b : List S42) (hla : a.length ≤ 1000) (hlb : b.length ≤ 1000) (ha : rightB 0 a = true) (hb : rightB 0 b = true) (k : Nat) (hk : 200000 ≤ k) : changelingref25_Merge.f k (a.map toRow) (b.map toRow) = some ((mergeS a b).map toRow) := by
  unfold changelingref25_Merge.f
  have h := refMerge_l0 a b hla hlb 14 k 0 [] (by omega) (by omega) (by simp) (by omega)
  rw [merge_ext ha hb, ← fm_congr (fun op _ => rowOf_comb ha hb op)]
  simpa using h
end Go.Proofs.Ytcmknnhhbcgoiaa.Pure
