/- StatMerges, in plain Lean: any two tables are merged as the document says, or refused; no condition. -/
import Derived.Test.YtcmknnhhbcgoiaaPureRefS
import Derived.Test.YtcmknnhhbcgoiaaQN9
namespace Go.Proofs.Ytcmknnhhbcgoiaa.Pure
open Go.RowKit Go.Proofs.Ytcmknnhhbcgoiaa.QN Go.Proofs.YtcmknnhhbcgoiaaW.PrintWords Go.Proofs.YtcmknnhhbcgoiaaW.PrintLast
set_option linter.unusedVariables false
set_option linter.unusedSimpArgs false
theorem finB_no {y : List S42} (h : rightB 0 y = false) : finB y = ([], 1) := by unfold finB; rw [h]; rfl
theorem finB_yes {y : List S42} (h : rightB 0 y = true) : finB y = (y, 0) := by unfold finB; rw [h]; rfl
theorem merges_j1_no (k : Nat) (A B : List S74) : changelinglaw25_StatMerges.j1 (k + 1) A B [] 1 true = some true := rfl
theorem merges_j0 (l m : List S42) (hl : l.length ≤ 100) (hm : m.length ≤ 100) (k : Nat) (hk : 200010 ≤ k) : changelinglaw25_StatMerges.j0 (k + 1) l m false = some true := by
  obtain ⟨k, rfl⟩ : ∃ k', k = k' + 1 := ⟨k - 1, by omega⟩
  have hml := merge_len _ l m (Nat.le_refl _)
  simp only [changelinglaw25_StatMerges.j0]
  rw [if_neg (by decide), rows_f l (by omega) _ (by omega), rows_f m (by omega) _ (by omega), merge_f l m (by omega) (by omega) _ (by omega)]
  simp only [Option.bind_some]
  rw [refRight_f l (by omega) _ (by omega)]
  simp only [Option.bind_some]
  cases ha : rightB 0 l with
  | false =>
    rw [if_neg (by decide), if_neg (by simp)]
    exact merges_j1_no _ _ _
  | true =>
    rw [if_pos rfl, refRight_f m (by omega) _ (by omega)]
    simp only [Option.bind_some]
    cases hb : rightB 0 m with
    | false =>
      rw [if_neg (by decide), if_neg (by simp)]
      exact merges_j1_no _ _ _
    | true =>
      rw [if_pos rfl, if_pos (by simp), refMerge_f l m (by omega) (by omega) ha hb _ (by omega)]
      simp only [Option.bind_some]
      rw [refRight_f _ (by omega) _ (by omega)]
      simp only [Option.bind_some]
      cases hc : rightB 0 (mergeS l m) with
      | false =>
        rw [finB_no hc]
        exact merges_j1_no _ _ _
      | true =>
        rw [finB_yes hc]
        simp only [changelinglaw25_StatMerges.j1]
        rw [if_neg (by decide), if_pos trivial, rows_f _ (by omega) _ (by omega), refMerge_f l m (by omega) (by omega) ha hb _ (by omega)]
        simp only [Option.bind_some]
        rw [same_f _ (by omega) _ (by omega)]
        rfl
theorem StatMerges (l m : List S42) (hl : l.length ≤ maxLen) (wl : ∀ x ∈ l, True) (hm : m.length ≤ maxLen) (wm : ∀ x ∈ m, True) : ∃ k, changelinglaw25_StatMerges.f k l m = some true := by
  refine ⟨200020 + 1, ?_⟩
  unfold changelinglaw25_StatMerges.f
  by_cases h1 : (l.length : Int) > 100
  · rw [if_pos h1]; simp [changelinglaw25_StatMerges.j0, changelinglaw25_known.f]
  rw [if_neg h1]
  by_cases h2 : (m.length : Int) > 100
  · rw [decide_eq_true h2]; simp [changelinglaw25_StatMerges.j0, changelinglaw25_known.f]
  rw [decide_eq_false h2]
  exact merges_j0 l m (by omega) (by omega) 200020 (by omega)
end Go.Proofs.Ytcmknnhhbcgoiaa.Pure
