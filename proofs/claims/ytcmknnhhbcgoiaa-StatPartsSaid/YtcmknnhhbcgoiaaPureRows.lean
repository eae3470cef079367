/- The plain law of tables: rows as the document's, and the same rows. -/
import Derived.Test.YtcmknnhhbcgoiaaPureStat
import Derived.Test.YtcmknnhhbcgoiaaQN4
import Derived.Test.YtcmknnhhbcgoiaaQN5
namespace Go.Proofs.Ytcmknnhhbcgoiaa.Pure
open Go.RowKit Go.Proofs.Ytcmknnhhbcgoiaa.QN Go.Proofs.YtcmknnhhbcgoiaaW.PrintWords Go.Proofs.YtcmknnhhbcgoiaaW.PrintLast
set_option linter.unusedVariables false
set_option linter.unusedSimpArgs false
set_option linter.unusedSectionVars false
def nL (r : S42) : List Int := [r.f1, r.f2, r.f3, r.f4]
def toRow (r : S42) : S74 := ⟨r.f0, nL r⟩
theorem rd_map (l : List S42) (i : Nat) (h : i < l.length) : rd_T74 (l.map toRow) (i : Int) = toRow (rd_T42 l (i : Int)) := by
  simp [rd_T74, rd_T42, h]
theorem take_T42 (l : List S42) (m : Nat) (h : m < l.length) : l.take (m + 1) = l.take m ++ [rd_T42 l (m : Int)] := by
  have e : rd_T42 l (m : Int) = l[m] := by simp [rd_T42, h]
  rw [e, List.take_append_getElem h]
theorem rows_l0 (l : List S42) (hl : l.length ≤ 1000) : ∀ (m k i : Nat), i + m = l.length → m + 2 ≤ k → changelinglaw25_rows.l0 k l ((l.take i).map toRow) (i : Int) = some (l.map toRow)
  | m, 0, _, _, h => absurd h (by omega)
  | 0, k + 1, i, h, hk => by
    simp only [changelinglaw25_rows.l0]
    rw [if_neg (by omega), List.take_of_length_le (by omega)]
  | m + 1, k + 1, i, h, hk => by
    have ih := rows_l0 l hl m k (i + 1) (by omega) (by omega)
    rw [take_T42 l i (by omega), List.map_append] at ih
    simp only [changelinglaw25_rows.l0]
    rw [if_pos (by omega), if_pos (by omega), if_pos (by simp; omega)]
    have e1 : wrap64 ((i : Int) + 1) = ((i + 1 : Nat) : Int) := by rw [w64_id (by omega) (by omega)]; push_cast; rfl
    rw [e1]
    exact ih
theorem rows_f (l : List S42) (hl : l.length ≤ 1000) (k : Nat) (hk : l.length + 2 ≤ k) : changelinglaw25_rows.f k l = some (l.map toRow) := by
  have h := rows_l0 l hl l.length k 0 (by omega) hk
  unfold changelinglaw25_rows.f
  exact h
theorem sameInts_l0 (a : List Int) (ha : a.length ≤ 1000) : ∀ (m k i : Nat), i + m = a.length → m + 2 ≤ k → changelingref01_SameInts.l0 k a a (i : Int) = some true
  | m, 0, _, _, h => absurd h (by omega)
  | 0, k + 1, i, h, hk => by
    simp only [changelingref01_SameInts.l0]
    rw [if_neg (by omega)]
  | m + 1, k + 1, i, h, hk => by
    have ih := sameInts_l0 a ha m k (i + 1) (by omega) (by omega)
    simp only [changelingref01_SameInts.l0]
    have e1 : wrap64 ((i : Int) + 1) = ((i + 1 : Nat) : Int) := by rw [w64_id (by omega) (by omega)]; push_cast; rfl
    rw [if_pos (by omega), if_pos (by omega), if_pos (by omega), e1]
    simpa using ih
theorem sameInts_f (a : List Int) (ha : a.length ≤ 1000) (k : Nat) (hk : a.length + 2 ≤ k) : changelingref01_SameInts.f k a a = some true := by
  unfold changelingref01_SameInts.f
  rw [if_pos rfl]
  exact sameInts_l0 a ha a.length k 0 (by omega) hk
theorem same_l0 (l : List S42) (hl : l.length ≤ 1000) : ∀ (m k i : Nat), i + m = l.length → m + 20 ≤ k → changelinglaw25_same.l0 k (l.map toRow) (l.map toRow) (i : Int) = some true
  | m, 0, _, _, h => absurd h (by omega)
  | 0, k + 1, i, h, hk => by
    simp only [changelinglaw25_same.l0]
    rw [if_neg (by simp; omega)]
  | m + 1, k + 1, i, h, hk => by
    have ih := same_l0 l hl m k (i + 1) (by omega) (by omega)
    simp only [changelinglaw25_same.l0]
    have e1 : wrap64 ((i : Int) + 1) = ((i + 1 : Nat) : Int) := by rw [w64_id (by omega) (by omega)]; push_cast; rfl
    rw [if_pos (by simp; omega), if_pos (by omega), if_pos (by simp; omega), if_pos trivial, rd_map l i (by omega), sameInts_f _ (by simp [toRow, nL]) _ (by simp [toRow, nL]; omega), e1]
    simpa using ih
theorem same_f (l : List S42) (hl : l.length ≤ 1000) (k : Nat) (hk : l.length + 20 ≤ k) : changelinglaw25_same.f k (l.map toRow) (l.map toRow) = some true := by
  unfold changelinglaw25_same.f
  rw [if_pos rfl]
  exact same_l0 l hl l.length k 0 (by omega) hk
end Go.Proofs.Ytcmknnhhbcgoiaa.Pure
