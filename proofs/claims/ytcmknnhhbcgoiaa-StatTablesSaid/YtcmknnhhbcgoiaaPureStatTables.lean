/- The plain law of StatTables: of any rows it is told whether they may be, their sum, score and text; no condition. -/
import Derived.Test.YtcmknnhhbcgoiaaPureTexts
import Derived.Test.YtcmknnhhbcgoiaaQT
namespace Go.Proofs.Ytcmknnhhbcgoiaa.Pure
open Go.RowKit Go.Proofs.Ytcmknnhhbcgoiaa.QN Go.Proofs.YtcmknnhhbcgoiaaW.PrintWords Go.Proofs.YtcmknnhhbcgoiaaW.PrintLast
set_option linter.unusedVariables false
set_option linter.unusedSimpArgs false
def zr (l : List S42) : S42 := if rightB 0 l = true then sumR l else z5
theorem sum_z (l : List S42) (hl : l.length ≤ 1000) (k : Nat) (hk : 2000 ≤ k) : stat_Sum.f k l = some ((zr l).f0, (zr l).f1, (zr l).f2, (zr l).f3, (zr l).f4) := by
  rw [sum_f l (by omega) k (by omega)]
  unfold zr
  by_cases h : rightB 0 l = true
  · rw [if_pos h, if_pos h]
  · rw [if_neg h, if_neg h]; rfl
theorem score_f (l : List S42) (hl : l.length ≤ 1000) (k : Nat) (hk : 2000 ≤ k) : stat_Score.f k l = some ((zr l).f1, totR (zr l)) := by
  unfold stat_Score.f
  rw [sum_z l hl k hk]
  rfl
theorem j2_ok (l : List S42) (hl : l.length ≤ 1000) (k : Nat) (hk : 9000 ≤ k) : changelinglaw25_StatTables.j2 k l (l.map toRow) (rightB 0 l) (zr l).f1 (totR (zr l)) false = some true := by
  obtain ⟨k, rfl⟩ : ∃ k', k = k' + 1 := ⟨k - 1, by omega⟩
  simp only [changelinglaw25_StatTables.j2]
  rw [if_neg (by decide)]
  by_cases h : rightB 0 l = true
  · have hz : zr l = sumR l := by unfold zr; rw [if_pos h]
    have h0 : (sumR l).f0 = 0 := sum0_op l z5
    rw [if_pos h, refSum_f l (by omega) k (by omega), sum_z l hl k (by omega), hz]
    simp only [Option.bind_some, changelinglaw25_sums.f]
    rw [show [(sumR l).f1, (sumR l).f2, (sumR l).f3, (sumR l).f4] = nL (sumR l) from rfl, sameInts_f (nL (sumR l)) (by simp [nL]) k (by simp [nL]; omega)]
    simp only [Option.bind_some]
    rw [if_pos trivial, if_pos h0, if_pos (by simp [nL]), if_pos (by rfl), if_pos (by simp [nL]), if_pos (by simp [nL]), if_pos (by simp [nL]), if_pos (by rfl)]
    rfl
  · have hz : zr l = z5 := by unfold zr; rw [if_neg h]
    rw [if_neg h, sum_z l hl k (by omega), hz]
    simp [z5, totR, wrap64, changelinglaw25_known.f]
theorem j1_ok (l : List S42) (hl : l.length ≤ 1000) (a1 a2 x : Int) (hx : stat_Thousandths.f a1 a2 = some x) (k : Nat) (hk : 10000 ≤ k) : changelinglaw25_StatTables.j1 k l a1 a2 (l.map toRow) (rightB 0 l) (zr l).f1 (totR (zr l)) x = some true := by
  obtain ⟨k, rfl⟩ : ∃ k', k = k' + 1 := ⟨k - 1, by omega⟩
  simp only [changelinglaw25_StatTables.j1]
  rw [right_f l (by omega) k (by omega)]
  simp only [Option.bind_some]
  rw [if_neg (by simp), refText_f l hl k (by omega), hx]
  unfold stat_Text.f
  rw [if_pos hl]
  simp only [Option.bind_some]
  rw [if_pos trivial, show (x != x) = false from by simp]
  exact j2_ok l hl k (by omega)
theorem StatTables (l0 : List S42) (a1 a2 : Int) (hm0 : l0.length ≤ maxLen) (hw0 : ∀ x ∈ l0, True) (w1 : (Lit.int .i64 a1).wf = true) (w2 : (Lit.int .i64 a2).wf = true) : ∃ k, changelinglaw25_StatTables.f k l0 a1 a2 = some true := by
  refine ⟨20000, ?_⟩
  unfold changelinglaw25_StatTables.f
  by_cases h : (l0.length : Int) > 100
  · rw [if_pos h]; rfl
  rw [if_neg h, rows_f l0 (by omega) _ (by omega)]
  simp only [Option.bind_some]
  rw [refRight_f l0 (by omega) _ (by omega)]
  simp only [Option.bind_some]
  rw [score_f l0 (by omega) _ (by omega)]
  simp only [Option.bind_some]
  have no : ∀ b : Bool, b = false → stat_Thousandths.f a1 a2 = some 0 → changelinglaw25_StatTables.j0 20000 l0 a1 a2 (l0.map toRow) (rightB 0 l0) (zr l0).f1 (totR (zr l0)) 0 b = some true := fun b hb ht => by
    show changelinglaw25_StatTables.j0 (19999 + 1) l0 a1 a2 (l0.map toRow) (rightB 0 l0) (zr l0).f1 (totR (zr l0)) 0 b = some true
    simp only [changelinglaw25_StatTables.j0]
    rw [if_neg (by rw [hb]; decide)]
    exact j1_ok l0 (by omega) a1 a2 0 ht _ (by omega)
  by_cases c1 : a2 ≥ 1
  · rw [if_pos c1]
    by_cases c2 : a2 ≤ 1099511627776
    · rw [if_pos c2]
      by_cases c3 : a1 ≥ 0
      · rw [if_pos c3]
        by_cases c4 : a1 ≤ a2
        · rw [decide_eq_true c4]
          show changelinglaw25_StatTables.j0 (19999 + 1) l0 a1 a2 (l0.map toRow) (rightB 0 l0) (zr l0).f1 (totR (zr l0)) 0 true = some true
          simp only [changelinglaw25_StatTables.j0]
          rw [if_pos trivial, if_neg (by omega)]
          refine j1_ok l0 (by omega) a1 a2 _ ?_ _ (by omega)
          unfold stat_Thousandths.f
          rw [if_neg (by omega), if_neg (by omega), if_neg (by omega), if_neg (by omega), if_neg (by omega)]
        · exact no _ (decide_eq_false c4) (by unfold stat_Thousandths.f; rw [if_neg (by omega), if_neg (by omega), if_neg (by omega), if_pos (by omega)])
      · rw [if_neg c3]; exact no _ rfl (by unfold stat_Thousandths.f; rw [if_neg (by omega), if_neg (by omega), if_pos (by omega)])
    · rw [if_neg c2]; exact no _ rfl (by unfold stat_Thousandths.f; rw [if_neg (by omega), if_pos (by omega)])
  · rw [if_neg c1]; exact no _ rfl (by unfold stat_Thousandths.f; rw [if_pos (by omega)])
end Go.Proofs.Ytcmknnhhbcgoiaa.Pure
