/- StatOrders, in plain Lean: it does not matter in which order tables are merged; no condition. -/
import Derived.Test.YtcmknnhhbcgoiaaPureRows
import Derived.Test.YtcmknnhhbcgoiaaQO
namespace Go.Proofs.Ytcmknnhhbcgoiaa.Pure
open Go.RowKit Go.Proofs.Ytcmknnhhbcgoiaa.QN Go.Proofs.YtcmknnhhbcgoiaaW.PrintWords Go.Proofs.YtcmknnhhbcgoiaaW.PrintLast
set_option linter.unusedVariables false
set_option linter.unusedSimpArgs false
def mrg (a b : List S42) : List S42 × Int := if rightB 0 a = true ∧ rightB 0 b = true then finB (mergeS a b) else ([], 1)
theorem mrg_len (a b : List S42) : (mrg a b).1.length ≤ a.length + b.length := by
  have h := merge_len _ a b (Nat.le_refl _)
  unfold mrg finB
  split
  · split
    · exact h
    · simp
  · simp
theorem mrg_comm (a b : List S42) : mrg a b = mrg b a := by
  unfold mrg
  by_cases h : rightB 0 a = true ∧ rightB 0 b = true
  · rw [if_pos h, if_pos ⟨h.2, h.1⟩, merge_comm h.1 h.2]
  · rw [if_neg h, if_neg (fun h2 => h ⟨h2.2, h2.1⟩)]
theorem mrg_ok {a b : List S42} (h : (mrg a b).2 = 0) : rightB 0 a = true ∧ rightB 0 b = true ∧ rightB 0 (mergeS a b) = true ∧ (mrg a b).1 = mergeS a b := by
  unfold mrg at h ⊢
  by_cases h1 : rightB 0 a = true ∧ rightB 0 b = true
  · rw [if_pos h1] at h ⊢
    unfold finB at h ⊢
    by_cases h2 : rightB 0 (mergeS a b) = true
    · rw [if_pos h2]; exact ⟨h1.1, h1.2, h2, rfl⟩
    · rw [if_neg h2] at h; cases h
  · rw [if_neg h1] at h; cases h
theorem mrg_f (a b : List S42) (hla : a.length ≤ 1000) (hlb : b.length ≤ 1000) (k : Nat) (hk : 6000 ≤ k) : stat_Merge.f k a b = some (mrg a b) := merge_f a b hla hlb k hk
theorem mrg_assoc {a b c : List S42} (h1 : (mrg a b).2 = 0) (h2 : (mrg b c).2 = 0) : mrg (mrg a b).1 c = mrg a (mrg b c).1 := by
  obtain ⟨ra, rb, rab, e1⟩ := mrg_ok h1
  obtain ⟨_, rc, rbc, e2⟩ := mrg_ok h2
  rw [e1, e2]
  unfold mrg
  rw [if_pos ⟨rab, rc⟩, if_pos ⟨ra, rbc⟩, merge_assoc ra rb rc rab rbc]
theorem orders_j2 (l m n : List S42) (hl : l.length ≤ 50) (hm : m.length ≤ 50) (hn : n.length ≤ 50) (h1 : (mrg l m).2 = 0) (h2 : (mrg m n).2 = 0) (k : Nat) (hk : 10000 ≤ k) : changelinglaw25_StatOrders.j2 (k + 1) l n (mrg l m).1 (mrg m n).1 false = some true := by
  have e1 := mrg_len l m
  have e2 := mrg_len m n
  have e3 := mrg_len l (mrg m n).1
  simp only [changelinglaw25_StatOrders.j2]
  rw [if_neg (by decide), mrg_f _ _ (by omega) (by omega) _ (by omega), mrg_f _ _ (by omega) (by omega) _ (by omega), mrg_assoc h1 h2]
  simp only [Option.bind_some]
  rw [if_pos trivial, rows_f _ (by omega) _ (by omega)]
  simp only [Option.bind_some]
  rw [same_f _ (by omega) _ (by omega)]
  rfl
theorem orders_j0 (l m n : List S42) (hl : l.length ≤ 50) (hm : m.length ≤ 50) (hn : n.length ≤ 50) (k : Nat) (hk : 10010 ≤ k) : changelinglaw25_StatOrders.j0 (k + 3) l m n false = some true := by
  have e1 := mrg_len l m
  have e2 := mrg_len m n
  simp only [changelinglaw25_StatOrders.j0]
  rw [if_neg (by decide), mrg_f _ _ (by omega) (by omega) _ (by omega), mrg_f _ _ (by omega) (by omega) _ (by omega), mrg_comm m l]
  simp only [Option.bind_some]
  rw [if_pos trivial, rows_f _ (by omega) _ (by omega)]
  simp only [Option.bind_some]
  rw [same_f _ (by omega) _ (by omega)]
  simp only [Option.bind_some, changelinglaw25_StatOrders.j1, Bool.not_true]
  rw [if_neg (by decide), mrg_f _ _ (by omega) (by omega) _ (by omega)]
  simp only [Option.bind_some]
  by_cases h1 : (mrg l m).2 = 0
  · rw [if_pos h1]
    by_cases h2 : (mrg m n).2 = 0
    · rw [show ((mrg m n).2 != 0) = false from bne_eq_false_iff_eq.mpr h2]
      exact orders_j2 l m n hl hm hn h1 h2 k (by omega)
    · rw [show ((mrg m n).2 != 0) = true from bne_iff_ne.mpr h2]
      simp [changelinglaw25_StatOrders.j2, changelinglaw25_known.f]
  · rw [if_neg h1]
    simp [changelinglaw25_StatOrders.j2, changelinglaw25_known.f]
theorem StatOrders (l m n : List S42) (hl : l.length ≤ maxLen) (wl : ∀ x ∈ l, True) (hm : m.length ≤ maxLen) (wm : ∀ x ∈ m, True) (hn : n.length ≤ maxLen) (wn : ∀ x ∈ n, True) : ∃ k, changelinglaw25_StatOrders.f k l m n = some true := by
  refine ⟨10020 + 3, ?_⟩
  unfold changelinglaw25_StatOrders.f
  by_cases h1 : (l.length : Int) > 50
  · rw [if_pos h1]; simp [changelinglaw25_StatOrders.j0, changelinglaw25_known.f]
  rw [if_neg h1]
  by_cases h2 : (m.length : Int) > 50
  · rw [if_pos h2]; simp [changelinglaw25_StatOrders.j0, changelinglaw25_known.f]
  rw [if_neg h2]
  by_cases h3 : (n.length : Int) > 50
  · rw [decide_eq_true h3]; simp [changelinglaw25_StatOrders.j0, changelinglaw25_known.f]
  rw [decide_eq_false h3]
  exact orders_j0 l m n (by omega) (by omega) (by omega) 10020 (by omega)
end Go.Proofs.Ytcmknnhhbcgoiaa.Pure
