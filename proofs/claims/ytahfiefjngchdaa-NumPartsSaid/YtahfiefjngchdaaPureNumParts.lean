/- A number is its quotient, multiplied, and what is left, which is less than the divisor; no condition. -/
import Derived.Test.YtahfiefjngchdaaQN4
import Derived.Test.YtahfiefjngchdaaPureBase
namespace Go.Proofs.Ytahfiefjngchdaa.Pure
open Go.RowKit Go.Proofs.Ytahfiefjngchdaa.QN Go.Proofs.YtahfiefjngchdaaW.PrintWords Go.Proofs.YtahfiefjngchdaaW.PrintLast

theorem parts_tmod (a b : Int) (hb : b ≠ 0) : (Int.tmod a b).natAbs < b.natAbs ∧ (Int.tmod a b = 0 ∨ (Int.tmod a b < 0 ↔ a < 0)) ∧ (Int.tmod a b).natAbs ≤ a.natAbs := by
  have h1 : (Int.tmod a b).natAbs = a.natAbs % b.natAbs := Int.natAbs_tmod a b
  have h2 := Nat.mod_lt a.natAbs (show b.natAbs > 0 by omega)
  have h3 := Nat.mod_le a.natAbs b.natAbs
  refine ⟨by omega, ?_, by omega⟩
  rcases Int.le_total 0 a with ha | ha
  · have := Int.tmod_nonneg b ha
    omega
  · obtain ⟨c, rfl⟩ : ∃ c, a = -c := ⟨-a, by omega⟩
    have h4 := Int.tmod_nonneg b (show 0 ≤ c by omega)
    rw [Int.neg_tmod] at *
    omega

/-- YOURS: two numbers, each of its kind: the law answers true. -/
theorem NumParts : changelinglaw01_NumParts.Pure := by
  intro a b ha hb
  have ha' := wf64 ha
  have hb' := wf64 hb
  refine ⟨100, ?_⟩
  unfold changelinglaw01_NumParts.f
  simp only [does_f _ _ _ (show 0 < 100 by omega), Option.bind_some, known_ok]
  by_cases h0 : b = 0
  · subst h0
    simp [doSpec]
  · obtain ⟨p1, p2, p3⟩ := parts_tmod a b h0
    have e1 : doSpec 4 a b = (wrap64 (Int.tdiv a b), 0) := by simp [doSpec, h0]
    have e2 : doSpec 5 a b = (Int.tmod a b, 0) := by simp [doSpec, h0]
    have e3 : ∀ x y, doSpec 3 x y = (wrap64 (x * y), 0) := fun x y => by simp [doSpec]
    have e4 : ∀ x y, doSpec 1 x y = (wrap64 (x + y), 0) := fun x y => by simp [doSpec]
    have e5 : wrap64 (wrap64 (wrap64 (Int.tdiv a b) * b) + Int.tmod a b) = a := by
      have hd := Int.mul_tdiv_add_tmod a b
      obtain ⟨s, hs⟩ := w64_ex (Int.tdiv a b)
      rw [hs]
      obtain ⟨t, ht⟩ := w64_ex ((Int.tdiv a b + 18446744073709551616 * s) * b)
      rw [ht, w64_congr (y := a) (s := s * b + t) (by grind), w64_id (by omega) (by omega)]
    have hs1 := size_f (a := Int.tmod a b) (by omega)
    have hs2 := size_f hb'
    rw [if_neg h0]
    simp only [e1, e2, e3, e4, e5, hs1, hs2, Option.bind_some, beq_self_eq_true, if_true]
    rw [if_pos (by omega)]
    by_cases hz : Int.tmod a b = 0
    · rw [if_pos hz]
    · rw [if_neg hz, if_pos]
      rcases p2 with h | h
      · exact absurd h hz
      · by_cases hn : a < 0
        · have := h.2 hn; simp [hn, this]
        · have : ¬ Int.tmod a b < 0 := fun x => hn (h.1 x)
          simp [hn, this]

end Go.Proofs.Ytahfiefjngchdaa.Pure
