/- Every operator gives, of any two numbers, what the reference's bit by bit definition gives; no condition. -/
import Derived.Test.YtahfiefjngchdaaQN4
import Derived.Test.YtahfiefjngchdaaPureBase
namespace Go.Proofs.Ytahfiefjngchdaa.Pure
open Go.RowKit Go.Proofs.Ytahfiefjngchdaa.QN Go.Proofs.YtahfiefjngchdaaW.PrintWords Go.Proofs.YtahfiefjngchdaaW.PrintLast

theorem ref_right (op : Int) : changelingref01_Right.f op = some (decide (1 ≤ op ∧ op ≤ 11)) := by
  unfold changelingref01_Right.f
  by_cases h : op ≥ 1
  · rw [if_pos h]; simp; omega
  · rw [if_neg h]; simp; omega

theorem natAbs_div (a b : Int) (hb : b ≠ 0) : wrap64 (Int.tdiv a b) = wrap64 (if (decide (a < 0)) != (decide (b < 0)) then -((a.natAbs : Int) / (b.natAbs : Int)) else (a.natAbs : Int) / (b.natAbs : Int)) := by
  congr 1
  rcases Int.le_total 0 a with ha | ha <;> rcases Int.le_total 0 b with hb' | hb'
  · rw [if_neg (by simp; omega), Int.tdiv_eq_ediv_of_nonneg ha, Int.natAbs_of_nonneg ha, Int.natAbs_of_nonneg hb']
  · obtain ⟨c, rfl⟩ : ∃ c, b = -c := ⟨-b, by omega⟩
    by_cases h0 : a = 0
    · subst h0; simp
    · rw [if_pos (by simp; omega), Int.tdiv_neg, Int.tdiv_eq_ediv_of_nonneg ha, Int.natAbs_of_nonneg ha, Int.natAbs_neg, Int.natAbs_of_nonneg (by omega)]
  · obtain ⟨c, rfl⟩ : ∃ c, a = -c := ⟨-a, by omega⟩
    by_cases h0 : c = 0
    · subst h0; simp
    · rw [if_pos (by simp; omega), Int.neg_tdiv, Int.tdiv_eq_ediv_of_nonneg (by omega), Int.natAbs_neg, Int.natAbs_of_nonneg (by omega), Int.natAbs_of_nonneg hb']
  · obtain ⟨c, rfl⟩ : ∃ c, a = -c := ⟨-a, by omega⟩
    obtain ⟨d, rfl⟩ : ∃ d, b = -d := ⟨-b, by omega⟩
    by_cases h0 : c = 0
    · subst h0; simp
    · rw [if_neg (by simp; omega), Int.neg_tdiv, Int.tdiv_neg, Int.neg_neg, Int.tdiv_eq_ediv_of_nonneg (by omega), Int.natAbs_neg, Int.natAbs_neg, Int.natAbs_of_nonneg (by omega), Int.natAbs_of_nonneg (by omega)]

theorem natAbs_mod (a b : Int) : Int.tmod a b = (if decide (a < 0) = true then -((a.natAbs : Int) % (b.natAbs : Int)) else (a.natAbs : Int) % (b.natAbs : Int)) := by
  have hb : ∀ x : Int, Int.tmod x b = Int.tmod x (b.natAbs : Int) := by
    intro x
    rcases Int.le_total 0 b with hb' | hb'
    · rw [Int.natAbs_of_nonneg hb']
    · obtain ⟨d, rfl⟩ : ∃ d, b = -d := ⟨-b, by omega⟩
      rw [Int.tmod_neg, Int.natAbs_neg, Int.natAbs_of_nonneg (by omega)]
  rw [hb]
  by_cases ha : a < 0
  · rw [if_pos (by simpa using ha)]
    obtain ⟨c, rfl⟩ : ∃ c, a = -c := ⟨-a, by omega⟩
    rw [Int.neg_tmod, Int.natAbs_neg, Int.natAbs_of_nonneg (show 0 ≤ c by omega), Int.tmod_eq_emod_of_nonneg (show 0 ≤ c by omega)]
  · rw [if_neg (by simpa using ha), Int.natAbs_of_nonneg (show 0 ≤ a by omega), Int.tmod_eq_emod_of_nonneg (show 0 ≤ a by omega)]

theorem signed_f (n : Int) (b : Bool) : changelingref01_signed.f n b = some (wrap64 (if b = true then -n else n)) := by
  unfold changelingref01_signed.f
  cases b
  · simp
  · simp [w64_wu]

theorem ref_do (op a b : Int) (ha : -9223372036854775808 ≤ a ∧ a ≤ 9223372036854775807) (hb : -9223372036854775808 ≤ b ∧ b ≤ 9223372036854775807) : changelingref01_Do.f 100 op a b = some (doSpec op a b) := by
  unfold changelingref01_Do.f
  rw [ref_right]
  simp only [Option.bind_some]
  by_cases hop : 1 ≤ op ∧ op ≤ 11
  · rw [if_pos (by simpa using hop)]
    have hcases : op = 1 ∨ op = 2 ∨ op = 3 ∨ op = 4 ∨ op = 5 ∨ op = 6 ∨ op = 7 ∨ op = 8 ∨ op = 9 ∨ op = 10 ∨ op = 11 := by omega
    have hsa := size_f ha
    have hsb := size_f hb
    rcases hcases with rfl | rfl | rfl | rfl | rfl | rfl | rfl | rfl | rfl | rfl | rfl
    · simp [changelingref01_Do.j0, changelingref01_Do.j1, doSpec, w64_wu]
      refine w64_congr (s := -((a / 18446744073709551616) + (b / 18446744073709551616))) ?_
      rw [wu, wu]; omega
    · simp [changelingref01_Do.j0, changelingref01_Do.j1, doSpec, w64_wu]
      refine w64_congr (s := -((a / 18446744073709551616) + (-(b % 18446744073709551616) / 18446744073709551616) - b / 18446744073709551616)) ?_
      rw [wu, wu, wu]; omega
    · have hp := product_f (a := IntKind.u64.wrap a) (b := IntKind.u64.wrap b) (k := 98) (by rw [wu]; omega) (by rw [wu]; omega) (by omega)
      simp [changelingref01_Do.j0, changelingref01_Do.j1, doSpec, hp, w64_wu]
      rw [wu, wu]
      have h1 : a % 18446744073709551616 = a - 18446744073709551616 * (a / 18446744073709551616) := by omega
      have h2 : b % 18446744073709551616 = b - 18446744073709551616 * (b / 18446744073709551616) := by omega
      refine w64_congr (s := -(a / 18446744073709551616) * (b % 18446744073709551616) - a * (b / 18446744073709551616)) ?_
      generalize a / 18446744073709551616 = x at *
      generalize b / 18446744073709551616 = y at *
      rw [h1, h2]; grind
    · by_cases h0 : b = 0
      · subst h0; simp [changelingref01_Do.j0, doSpec]
      · have hd := divided_f (a := (a.natAbs : Int)) (b := (b.natAbs : Int)) (k := 98) (by omega) (by omega) (by omega) (by omega) (by omega)
        have hn := natAbs_div a b h0
        simp only [changelingref01_Do.j0, changelingref01_Do.j1, h0, beq_iff_eq, ↓reduceIte, hsa, hsb, hd, Option.bind_some, signed_f]
        simp [doSpec, h0, hn]
    · by_cases h0 : b = 0
      · subst h0; simp [changelingref01_Do.j0, doSpec]
      · have hd := divided_f (a := (a.natAbs : Int)) (b := (b.natAbs : Int)) (k := 98) (by omega) (by omega) (by omega) (by omega) (by omega)
        have hn := natAbs_mod a b
        have hbd : 0 ≤ (a.natAbs : Int) % (b.natAbs : Int) ∧ (a.natAbs : Int) % (b.natAbs : Int) < (b.natAbs : Int) := ⟨Int.emod_nonneg _ (by omega), Int.emod_lt_of_pos _ (by omega)⟩
        have hle : (a.natAbs : Int) % (b.natAbs : Int) ≤ (a.natAbs : Int) := by rw [← Int.natCast_emod]; exact_mod_cast Nat.mod_le _ _
        have e : changelingref01_Do.j0 100 5 a b (b == 0) = some (wrap64 (if decide (a < 0) = true then -((a.natAbs : Int) % (b.natAbs : Int)) else (a.natAbs : Int) % (b.natAbs : Int)), 0) := by
          simp [changelingref01_Do.j0, changelingref01_Do.j1, h0, hsa, hsb, hd, signed_f]
        have e2 : doSpec 5 a b = (Int.tmod a b, 0) := by simp [doSpec, h0]
        rw [e2, hn]
        simp only [show ((5 : Int) = 4) = False by simp, if_false, if_true, e]
        rw [w64_id]
        · split <;> omega
        · split <;> omega
    all_goals simp [changelingref01_Do.j0, changelingref01_Do.j1, doSpec, changelingref01_truth.f]
    all_goals (try (split <;> simp_all))
    all_goals (try omega)
  · rw [if_neg (by simpa using hop)]
    have hs : doSpec op a b = (0, 1) := by
      unfold doSpec
      repeat (rw [if_neg (by omega)])
    rw [hs]

/-- YOURS: ∀ (a0 : Int) (a1 : Int) (a2 : Int), (Lit.int .i64 a0).wf = true → (Lit.int .i64 a1).wf = true → (Lit.int .i64 a2).wf = true → ∃ k, changelinglaw01_NumDoes.f k a0 a1 a2 = some true -/
theorem NumDoes : changelinglaw01_NumDoes.Pure := by
  intro op a b _ ha hb
  refine ⟨100, ?_⟩
  unfold changelinglaw01_NumDoes.f
  rw [do_f _ _ _ (by omega), ref_do op a b (wf64 ha) (wf64 hb), known_ok]
  simp

end Go.Proofs.Ytahfiefjngchdaa.Pure
