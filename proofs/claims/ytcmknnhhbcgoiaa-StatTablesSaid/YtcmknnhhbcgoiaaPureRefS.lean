/- The plain law of tables, the document's side. -/
import Derived.Test.YtcmknnhhbcgoiaaPureRows
import Derived.Test.YtcmknnhhbcgoiaaQN6
namespace Go.Proofs.Ytcmknnhhbcgoiaa.Pure
open Go.RowKit Go.Proofs.Ytcmknnhhbcgoiaa.QN Go.Proofs.YtcmknnhhbcgoiaaW.PrintWords Go.Proofs.YtcmknnhhbcgoiaaW.PrintLast
set_option linter.unusedVariables false
set_option linter.unusedSimpArgs false
set_option linter.unusedSectionVars false
/-! ### the document's Right -/
theorem refRight_step (l : List S42) (i : Nat) (hi : i < l.length) (k j : Nat) (hj : j < 4) (s : Int) : changelingref25_Right.l1 (k + 1) (l.map toRow) (i : Int) s (j : Int) = if rd (nL (rd_T42 l (i : Int))) (j : Int) < 0 then some false else if rd (nL (rd_T42 l (i : Int))) (j : Int) > 1073741824 then some false else changelingref25_Right.l1 k (l.map toRow) (i : Int) (wrap64 (s + rd (nL (rd_T42 l (i : Int))) (j : Int))) ((j + 1 : Nat) : Int) := by
  have e1 : wrap64 ((j : Int) + 1) = ((j + 1 : Nat) : Int) := by rw [w64_id (by omega) (by omega)]; push_cast; rfl
  simp only [changelingref25_Right.l1]
  rw [if_pos (by omega), if_pos (by omega), if_pos (by simpa using hi), if_pos (by omega), rd_map l i hi, e1]
  rw [if_pos (by simp [toRow, nL]; omega)]
  rfl
theorem refRight_end (l : List S42) (hl : l.length ≤ 1000) (i : Nat) (hi : i < l.length) (k : Nat) (s : Int) (h1 : 1 ≤ (rd_T42 l (i : Int)).f0) : changelingref25_Right.l1 (k + 1) (l.map toRow) (i : Int) s 4 = if (rd_T42 l (i : Int)).f0 > 14 then some false else if s = 0 then some false else if (rd_T42 l (i : Int)).f0 ≤ opBefore l i then some false else changelingref25_Right.l0 k (l.map toRow) ((i + 1 : Nat) : Int) := by
  have e1 : wrap64 ((i : Int) + 1) = ((i + 1 : Nat) : Int) := by rw [w64_id (by omega) (by omega)]; push_cast; rfl
  simp only [changelingref25_Right.l1]
  rw [if_neg (by decide), if_pos (by omega), if_pos (by simpa using hi), rd_map l i hi, e1]
  show (if (rd_T42 l (i : Int)).f0 < 1 then some false else if (rd_T42 l (i : Int)).f0 > 14 then some false else _) = _
  rw [if_neg (by omega)]
  by_cases h0 : i = 0
  · have e0 : opBefore l i = 0 := by unfold opBefore; rw [if_pos h0]
    rw [if_neg (show ¬ (i : Int) > 0 by omega), if_neg (show ¬ (rd_T42 l (i : Int)).f0 ≤ opBefore l i by rw [e0]; omega)]
  · have e2 : wrap64 ((i : Int) - 1) = ((i - 1 : Nat) : Int) := by rw [w64_id (by omega) (by omega)]; omega
    have e3 : opBefore l i = (rd_T42 l ((i - 1 : Nat) : Int)).f0 := by unfold opBefore; rw [if_neg h0]; congr 2; omega
    rw [if_pos (show (i : Int) > 0 by omega), e2, if_pos (show (0 : Int) ≤ ((i - 1 : Nat) : Int) by omega), if_pos (show ((i - 1 : Nat) : Int) < ((l.map toRow).length : Int) by simp; omega), rd_map l (i - 1) (by omega), e3]
    rfl
theorem refRight_l0 (l : List S42) (hl : l.length ≤ 1000) : ∀ (m k i : Nat), i + m = l.length → 6 * m + 2 ≤ k → changelingref25_Right.l0 k (l.map toRow) (i : Int) = some (rightB (opBefore l i) (l.drop i))
  | m, 0, _, _, h => absurd h (by omega)
  | 0, k + 1, i, h, hk => by
    simp only [changelingref25_Right.l0]
    rw [if_neg (by simp; omega), List.drop_eq_nil_of_le (by omega)]
    rfl
  | m + 1, k + 1, i, h, hk => by
    obtain ⟨k, rfl⟩ : ∃ k', k = k' + 5 := ⟨k - 5, by omega⟩
    have ih := refRight_l0 l hl m k (i + 1) (by omega) (by omega)
    rw [opBefore_succ] at ih
    have hi : i < l.length := by omega
    simp only [changelingref25_Right.l0]
    rw [if_pos (by simp; omega), drop_T42 l i hi]
    show changelingref25_Right.l1 (k + 5) (l.map toRow) (i : Int) 0 ((0 : Nat) : Int) = some (fitsB (rd_T42 l (i : Int)) && decide (opBefore l i < (rd_T42 l (i : Int)).f0) && rightB (rd_T42 l (i : Int)).f0 (l.drop (i + 1)))
    rw [refRight_step l i hi _ 0 (by omega), refRight_step l i hi _ 1 (by omega), refRight_step l i hi _ 2 (by omega), refRight_step l i hi _ 3 (by omega)]
    generalize hr : rd_T42 l (i : Int) = r at ih ⊢
    show (if r.f1 < 0 then some false else if r.f1 > 1073741824 then some false else if r.f2 < 0 then some false else if r.f2 > 1073741824 then some false else if r.f3 < 0 then some false else if r.f3 > 1073741824 then some false else if r.f4 < 0 then some false else if r.f4 > 1073741824 then some false else changelingref25_Right.l1 (k + 1) (l.map toRow) (i : Int) (wrap64 ((wrap64 ((wrap64 ((wrap64 (0 + r.f1)) + r.f2)) + r.f3)) + r.f4)) 4) = _
    have no : ∀ (p : Prop), (¬ (0 ≤ r.f1 ∧ r.f1 ≤ 1073741824 ∧ 0 ≤ r.f2 ∧ r.f2 ≤ 1073741824 ∧ 0 ≤ r.f3 ∧ r.f3 ≤ 1073741824 ∧ 0 ≤ r.f4 ∧ r.f4 ≤ 1073741824 ∧ 1 ≤ r.f0 ∧ r.f0 ≤ 14 ∧ 0 < r.f1 + r.f2 + r.f3 + r.f4)) → some false = some (fitsB r && decide (opBefore l i < r.f0) && rightB r.f0 (l.drop (i + 1))) := fun _ h => by
      have : fitsB r = false := decide_eq_false h
      rw [this]; rfl
    by_cases c1 : r.f1 < 0
    · rw [if_pos c1]; exact no True (by omega)
    rw [if_neg c1]
    by_cases c2 : r.f1 > 1073741824
    · rw [if_pos c2]; exact no True (by omega)
    rw [if_neg c2]
    by_cases c3 : r.f2 < 0
    · rw [if_pos c3]; exact no True (by omega)
    rw [if_neg c3]
    by_cases c4 : r.f2 > 1073741824
    · rw [if_pos c4]; exact no True (by omega)
    rw [if_neg c4]
    by_cases c5 : r.f3 < 0
    · rw [if_pos c5]; exact no True (by omega)
    rw [if_neg c5]
    by_cases c6 : r.f3 > 1073741824
    · rw [if_pos c6]; exact no True (by omega)
    rw [if_neg c6]
    by_cases c7 : r.f4 < 0
    · rw [if_pos c7]; exact no True (by omega)
    rw [if_neg c7]
    by_cases c8 : r.f4 > 1073741824
    · rw [if_pos c8]; exact no True (by omega)
    rw [if_neg c8]
    rw [w64_id (n := 0 + r.f1) (by omega) (by omega), w64_id (n := 0 + r.f1 + r.f2) (by omega) (by omega), w64_id (n := 0 + r.f1 + r.f2 + r.f3) (by omega) (by omega), w64_id (n := 0 + r.f1 + r.f2 + r.f3 + r.f4) (by omega) (by omega)]
    by_cases c9 : 1 ≤ r.f0
    · rw [refRight_end l hl i hi k _ (by rw [hr]; exact c9), hr]
      by_cases c10 : r.f0 > 14
      · rw [if_pos c10]; exact no True (by omega)
      rw [if_neg c10]
      by_cases c11 : 0 + r.f1 + r.f2 + r.f3 + r.f4 = 0
      · rw [if_pos c11]; exact no True (by omega)
      rw [if_neg c11]
      have hf : fitsB r = true := decide_eq_true (by omega)
      rw [hf]
      by_cases c12 : r.f0 ≤ opBefore l i
      · rw [if_pos c12, decide_eq_false (by omega)]; rfl
      · rw [if_neg c12, decide_eq_true (by omega), ih]; simp
    · have : changelingref25_Right.l1 (k + 1) (l.map toRow) (i : Int) (0 + r.f1 + r.f2 + r.f3 + r.f4) 4 = some false := by
        simp only [changelingref25_Right.l1]
        rw [if_neg (by decide), if_pos (by omega), if_pos (by simpa using hi), rd_map l i hi, hr]
        exact if_pos (show r.f0 < 1 by omega)
      rw [this]
      exact no True (by omega)
theorem refRight_f (l : List S42) (hl : l.length ≤ 1000) (k : Nat) (hk : 6 * l.length + 2 ≤ k) : changelingref25_Right.f k (l.map toRow) = some (rightB 0 l) := by
  have h := refRight_l0 l hl l.length k 0 (by omega) hk
  unfold changelingref25_Right.f
  exact h
end Go.Proofs.Ytcmknnhhbcgoiaa.Pure
