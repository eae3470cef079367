/- The plain law of tables: the program's Merge. -/
import Derived.Test.YtcmknnhhbcgoiaaPureStat
import Derived.Test.YtcmknnhhbcgoiaaQN7
namespace Go.Proofs.Ytcmknnhhbcgoiaa.Pure
open Go.RowKit Go.Proofs.Ytcmknnhhbcgoiaa.QN Go.Proofs.YtcmknnhhbcgoiaaW.PrintWords Go.Proofs.YtcmknnhhbcgoiaaW.PrintLast
set_option linter.unusedVariables false
set_option linter.unusedSimpArgs false
/-! ### the program's Merge -/
def finB (y : List S42) : List S42 × Int := if rightB 0 y = true then (y, 0) else ([], 1)
theorem merge_l0 (a b : List S42) (hla : a.length ≤ 1000) (hlb : b.length ≤ 1000) (k : Nat) : ∀ (out : List S42) (i j : Nat), i ≤ a.length → j ≤ b.length → out.length ≤ i + j → 3020 + ((a.length - i) + (b.length - j)) ≤ k →
    stat_Merge.l0 k a b out (i : Int) (j : Int) = some (finB (out ++ mergeS (a.drop i) (b.drop j))) := by
  induction k with
  | zero => intro out i j hi hj ho hk; omega
  | succ k ih =>
    intro out i j hi hj ho hk
    have fin : ∀ y : List S42, y.length ≤ 3000 → ((stat_Right.f k y).bind fun t186 => (if t186 = true then (some (y, (0 : Int))) else (some (([] : List (S42)), 1)))) = some (finB y) := fun y hy => by
      rw [right_f y (by omega) k (by omega)]
      show (if rightB 0 y = true then _ else _) = _
      unfold finB
      cases rightB 0 y <;> rfl
    simp only [stat_Merge.l0]
    by_cases c1 : (i : Int) = (a.length : Int)
    · rw [if_pos c1, if_pos (by omega), if_pos (by omega)]
      simp only [Int.toNat_natCast, Option.bind_some]
      rw [if_pos (by rw [List.length_drop]; omega), show a.drop i = [] from List.drop_eq_nil_of_le (by omega), mergeS_nil2]
      exact fin _ (by rw [List.length_append, List.length_drop]; omega)
    rw [if_neg c1]
    by_cases c2 : (j : Int) = (b.length : Int)
    · rw [if_pos c2, if_pos (by omega), if_pos (by omega)]
      simp only [Int.toNat_natCast, Option.bind_some]
      rw [if_pos (by rw [List.length_drop]; omega), show b.drop j = [] from List.drop_eq_nil_of_le (by omega), mergeS_nil]
      exact fin _ (by rw [List.length_append, List.length_drop]; omega)
    rw [if_neg c2, if_pos (by omega), if_pos (by omega), if_pos (by omega), if_pos (by omega), drop_T42 a i (by omega), drop_T42 b j (by omega), mergeS_cons]
    have e1 : wrap64 ((i : Int) + 1) = ((i + 1 : Nat) : Int) := by rw [w64_id (by omega) (by omega)]; push_cast; rfl
    have e2 : wrap64 ((j : Int) + 1) = ((j + 1 : Nat) : Int) := by rw [w64_id (by omega) (by omega)]; push_cast; rfl
    have hout : out.length < 3518437208883 := by omega
    have hl1 : ∀ x : S42, (out ++ [x]).length = out.length + 1 := fun x => by simp
    rw [e1, e2]
    by_cases c3 : (rd_T42 a (i : Int)).f0 < (rd_T42 b (j : Int)).f0
    · rw [if_pos c3, if_pos c3, if_pos hout, ih _ (i + 1) j (by omega) hj (by rw [hl1]; omega) (by omega), drop_T42 b j (by omega), List.append_assoc]
      rfl
    rw [if_neg c3, if_neg c3]
    by_cases c4 : (rd_T42 a (i : Int)).f0 > (rd_T42 b (j : Int)).f0
    · rw [if_pos c4, if_pos c4, if_pos hout, ih _ i (j + 1) hi (by omega) (by rw [hl1]; omega) (by omega), drop_T42 a i (by omega), List.append_assoc]
      rfl
    rw [if_neg c4, if_neg c4]
    simp only [stat_plus.f, Option.bind_some]
    rw [if_pos hout, ih _ (i + 1) (j + 1) (by omega) (by omega) (by rw [hl1]; omega) (by omega), List.append_assoc]
    rfl
theorem merge_f (a b : List S42) (hla : a.length ≤ 1000) (hlb : b.length ≤ 1000) (k : Nat) (hk : 6000 ≤ k) : stat_Merge.f k a b = some (if rightB 0 a = true ∧ rightB 0 b = true then finB (mergeS a b) else ([], 1)) := by
  obtain ⟨k, rfl⟩ : ∃ k', k = k' + 1 := ⟨k - 1, by omega⟩
  have h := merge_l0 a b hla hlb k [] 0 0 (by omega) (by omega) (by simp) (by omega)
  unfold stat_Merge.f
  rw [right_f a (by omega) _ (by omega)]
  show (if rightB 0 a = true then _ else _) = _
  cases h1 : rightB 0 a with
  | false => simp [stat_Merge.j0]
  | true =>
    rw [if_pos rfl, right_f b (by omega) _ (by omega)]
    cases h2 : rightB 0 b with
    | false => simp [stat_Merge.j0]
    | true =>
      simp only [Option.bind_some, stat_Merge.j0]
      simpa using h
end Go.Proofs.Ytcmknnhhbcgoiaa.Pure
