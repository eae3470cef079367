/- What is written of a number is read as that number, and unlike numbers have unlike texts; no condition. -/
import Derived.Test.YtahfiefjngchdaaQN9
import Derived.Test.YtahfiefjngchdaaPureParse
namespace Go.Proofs.Ytahfiefjngchdaa.Pure
open Go.RowKit Go.Proofs.Ytahfiefjngchdaa.QN Go.Proofs.YtahfiefjngchdaaW.PrintWords Go.Proofs.YtahfiefjngchdaaW.PrintLast

theorem dig_19 {n : Nat} (h : n ≤ 9223372036854775808) : (dig 25 n).length ≤ 19 ∧ val (dig 25 n) = n ∧ dig 25 n ≠ [] ∧ (0 < n → (dig 25 n).head? ≠ some 48) := by
  have hp : n < 10 ^ 19 := Nat.lt_of_le_of_lt h (by decide)
  have hp2 : n < 10 ^ 25 := Nat.lt_of_le_of_lt h (by decide)
  have e : dig 25 n = dig 19 n := (dig_fuel 19 n hp 25 (by omega) (by omega)).trans (dig_fuel 19 n hp 19 (by omega) (by omega)).symm
  refine ⟨by rw [e]; exact dig_length 19 n, dig_val 25 n hp2 (by omega), ?_, fun h0 => (dig_head 25 n hp2 h0).1⟩
  intro h0
  have hv := dig_val 25 n hp2 (by omega)
  rw [h0] at hv
  have hz : n = 0 := hv.symm
  rw [hz] at h0
  simp [dig] at h0
theorem back {a : Int} (h : -9223372036854775808 ≤ a ∧ a ≤ 9223372036854775807) : readL (txtL a) = (a, 0) := by
  obtain ⟨h1, h2, h3, h4⟩ := dig_19 (n := a.natAbs) (by omega)
  have hall : (dig 25 a.natAbs).all isDig = true := List.all_eq_true.2 (fun c hc => dig_all 25 a.natAbs c hc)
  have hpos := List.length_pos_iff.2 h3
  by_cases hn : a < 0
  · have et : txtL a = 45 :: dig 25 a.natAbs := by unfold txtL; rw [if_pos hn]; rfl
    rw [et]
    unfold readL
    simp only [List.head?_cons, beq_self_eq_true, if_true, List.tail_cons]
    rw [if_neg, readD, if_pos hall, h2]
    · unfold fin
      rw [if_neg (by simp; omega)]
      simp; omega
    · rintro (h | h | h)
      · exact h3 h
      · omega
      · exact h4 (by omega) h.1
  · have et : txtL a = dig 25 a.natAbs := by unfold txtL; rw [if_neg hn]; rfl
    rw [et]
    have hh : ((dig 25 a.natAbs).head? == some 45) = false := by
      cases hd : dig 25 a.natAbs with
      | nil => exact absurd hd h3
      | cons x y =>
        have := dig_all 25 a.natAbs x (by rw [hd]; simp)
        simp [isDig] at this
        simp; omega
    unfold readL
    simp only [hh, Bool.false_eq_true, if_false]
    rw [if_neg, readD, if_pos hall, h2]
    · unfold fin
      rw [if_neg (by omega)]
      simp; omega
    · rintro (h | h | h)
      · exact h3 h
      · omega
      · by_cases h0 : a = 0
        · subst h0; simp [dig] at h
        · exact h4 (by omega) h.1

/-- YOURS: two numbers: the law answers true. -/
theorem NumBack : changelinglaw01_NumBack.Pure := by
  intro a b ha hb
  refine ⟨100, ?_⟩
  have ha := wf64 ha
  have hb := wf64 hb
  unfold changelinglaw01_NumBack.f
  rw [num_text ha, num_text hb, known_ok]
  simp only [Option.bind_some]
  rw [num_parse _ (by omega), bs_sb (txtL_lt a), back ha]
  simp only [Option.bind_some, if_true]
  rw [if_pos]
  have : ((sb (txtL a)).toList == (sb (txtL b)).toList) = (a == b) := by
    rw [Bool.eq_iff_iff, beq_iff_eq, beq_iff_eq, toList_iff, bs_sb (txtL_lt a), bs_sb (txtL_lt b)]
    constructor
    · intro h
      have := congrArg readL h
      rw [back ha, back hb] at this
      exact congrArg Prod.fst this
    · intro h; rw [h]
  rw [this]; simp

end Go.Proofs.Ytahfiefjngchdaa.Pure
