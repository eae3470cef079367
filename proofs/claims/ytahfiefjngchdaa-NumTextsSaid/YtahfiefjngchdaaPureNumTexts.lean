/- Any number is written, and any text read, as the reference says; no condition. -/
import Derived.Test.YtahfiefjngchdaaQN9
import Derived.Test.YtahfiefjngchdaaPureParse
namespace Go.Proofs.Ytahfiefjngchdaa.Pure
open Go.RowKit Go.Proofs.Ytahfiefjngchdaa.QN Go.Proofs.YtahfiefjngchdaaW.PrintWords Go.Proofs.YtahfiefjngchdaaW.PrintLast

/-- What the reference reads of digits t behind a sign, in the text sl. -/
def refL (b : Bool) (t sl : List Nat) : Int × Int :=
  if t ≠ [] ∧ t.length ≤ 19 ∧ t.all isDig = true then
    (if val t > 9223372036854775808 then (0, 11) else
      if txtL (wrap64 (if b = true then -(val t : Int) else (val t : Int))) = sl then (wrap64 (if b = true then -(val t : Int) else (val t : Int)), 0) else (0, 11))
  else (0, 11)

theorem sign_f (n : Int) (b : Bool) : changelingref01_signed.f n b = some (wrap64 (if b = true then -n else n)) := by
  unfold changelingref01_signed.f
  cases b
  · simp
  · simp [w64_wu]

theorem ref_j1 (s t : ByteArray) (b : Bool) {k : Nat} (hk : 40 < k) : changelingref01_Parse.j1 k s b t = some (refL b (bs t) (bs s)) := by
  obtain ⟨k, rfl⟩ : ∃ m, k = m + 1 := ⟨k - 1, by omega⟩
  simp only [changelingref01_Parse.j1]
  rw [ref_plain t (by omega)]
  simp only [Option.bind_some]
  unfold refL
  by_cases h : bs t ≠ [] ∧ (bs t).length ≤ 19 ∧ (bs t).all isDig = true
  · rw [if_pos h, if_pos h]
    simp only [if_true]
    by_cases h1 : ((val (bs t) : Nat) : Int) > 9223372036854775808
    · rw [if_pos h1, if_pos (by omega)]
    · rw [if_neg h1, if_neg (by omega), sign_f]
      simp only [Option.bind_some]
      generalize hm : wrap64 (if b = true then -((val (bs t) : Nat) : Int) else ((val (bs t) : Nat) : Int)) = m
      have hb := w64_bd (if b = true then -((val (bs t) : Nat) : Int) else ((val (bs t) : Nat) : Int))
      rw [hm] at hb
      rw [ref_text hb (by omega)]
      simp only [Option.bind_some]
      by_cases h2 : txtL m = bs s
      · rw [if_pos ((toList_iff _ _).2 (by rw [bs_sb (txtL_lt m)]; exact h2)), if_pos h2]
      · rw [if_neg (fun h => h2 (by rw [← bs_sb (txtL_lt m)]; exact (toList_iff _ _).1 h)), if_neg h2]
  · rw [if_neg h, if_neg h]
    simp

theorem head_dig {t : List Nat} (hne : t ≠ []) (h : t.all isDig = true) : t.head? ≠ some 45 := by
  cases t with
  | nil => exact absurd rfl hne
  | cons x y =>
    have := List.all_eq_true.1 h x (by simp)
    simp [isDig] at this
    simp; omega

theorem core (b : Bool) (t sl : List Nat) (hs : sl = if b then 45 :: t else t) :
    refL b t sl = if t = [] ∨ 19 < t.length ∨ (t.head? = some 48 ∧ 1 < sl.length) then (0, 11) else readD b t := by
  by_cases h : t ≠ [] ∧ t.length ≤ 19 ∧ t.all isDig = true
  · obtain ⟨hne, hl, hall⟩ := h
    have hpos := List.length_pos_iff.2 hne
    have hd : ∀ c ∈ t, isDig c = true := fun c hc => List.all_eq_true.1 hall c hc
    have hp : val t < 10 ^ 25 := Nat.lt_of_lt_of_le (val_lt t.length t rfl hd) (Nat.pow_le_pow_right (by decide) (by omega))
    have hh45 := head_dig hne hall
    unfold refL readD
    rw [if_pos ⟨hne, hl, hall⟩, if_pos hall]
    -- digits with a zero ahead are no number's
    have zero : t.head? = some 48 → 1 < t.length → dig 25 (val t) ≠ t := by
      intro h48 hlen heq
      by_cases hv : val t = 0
      · rw [hv] at heq
        have : t.length = 1 := by rw [← heq]; simp [dig]
        omega
      · have := (dig_head 25 (val t) hp (by omega)).1
        rw [heq] at this
        exact this h48
    have good : t.head? ≠ some 48 ∨ t.length = 1 → dig 25 (val t) = t ∧ (t.head? ≠ some 48 → 0 < val t) := fun h =>
      canon (t.length - 1) t (by omega) hd h 25 (by omega)
    by_cases hv : val t > 9223372036854775808
    · rw [if_pos hv]
      have : fin b (val t) = (0, 11) := by unfold fin; rw [if_pos (Or.inl hv)]
      rw [this]; split <;> rfl
    · rw [if_neg hv]
      cases b with
      | false =>
        simp only [Bool.false_eq_true, if_false] at hs ⊢
        rw [hs]
        by_cases h63 : val t = 9223372036854775808
        · have e : wrap64 ((val t : Nat) : Int) = -9223372036854775808 := by rw [h63]; unfold wrap64; omega
          rw [e]
          have hn : txtL (-9223372036854775808) ≠ t := by
            intro heq
            apply hh45
            rw [← heq]
            unfold txtL
            rw [if_pos (by omega)]; rfl
          rw [if_neg hn]
          have : fin false (val t) = (0, 11) := by unfold fin; rw [if_pos (Or.inr ⟨h63, rfl⟩)]
          rw [this]; split <;> rfl
        · have e : wrap64 ((val t : Nat) : Int) = ((val t : Nat) : Int) := w64_id (by omega) (by omega)
          rw [e]
          have et : txtL ((val t : Nat) : Int) = dig 25 (val t) := by
            unfold txtL; rw [if_neg (by omega), Int.natAbs_natCast]; rfl
          rw [et]
          have ef : fin false (val t) = (((val t : Nat) : Int), 0) := by unfold fin; rw [if_neg (by omega)]; simp
          rw [ef]
          by_cases hz : t.head? = some 48 ∧ 1 < t.length
          · rw [if_neg (zero hz.1 hz.2), if_pos (Or.inr (Or.inr hz))]
          · have hg : t.head? ≠ some 48 ∨ t.length = 1 := by
              by_cases h1 : t.head? = some 48
              · right
                have : ¬ 1 < t.length := fun h => hz ⟨h1, h⟩
                omega
              · left; exact h1
            rw [if_pos (good hg).1, if_neg]
            rintro (h | h | h)
            · exact hne h
            · omega
            · exact hz h
      | true =>
        simp only [if_true] at hs ⊢
        rw [hs]
        have e : wrap64 (-((val t : Nat) : Int)) = -((val t : Nat) : Int) := w64_id (by omega) (by omega)
        rw [e]
        have ef : fin true (val t) = (-((val t : Nat) : Int), 0) := by unfold fin; rw [if_neg (by simp; omega)]; simp
        rw [ef]
        by_cases h48 : t.head? = some 48
        · rw [if_pos (Or.inr (Or.inr ⟨h48, by simp; omega⟩)), if_neg]
          by_cases hv0 : val t = 0
          · rw [hv0]
            intro heq
            have : (txtL (-((0 : Nat) : Int))).head? = some 48 := by simp [txtL, dig]
            rw [heq] at this
            simp at this
          · have et : txtL (-((val t : Nat) : Int)) = 45 :: dig 25 (val t) := by
              unfold txtL; rw [if_pos (by omega), Int.natAbs_neg, Int.natAbs_natCast]; rfl
            rw [et]
            intro heq
            have heq := (List.cons.inj heq).2
            have := (dig_head 25 (val t) hp (by omega)).1
            rw [heq] at this
            exact this h48
        · obtain ⟨g1, g2⟩ := good (Or.inl h48)
          have g2 := g2 h48
          have et : txtL (-((val t : Nat) : Int)) = 45 :: dig 25 (val t) := by
            unfold txtL; rw [if_pos (by omega), Int.natAbs_neg, Int.natAbs_natCast]; rfl
          rw [et, g1, if_pos rfl, if_neg]
          rintro (h | h | h)
          · exact hne h
          · omega
          · exact h48 h.1
  · unfold refL readD
    rw [if_neg h]
    by_cases h1 : t = [] ∨ 19 < t.length ∨ (t.head? = some 48 ∧ 1 < sl.length)
    · rw [if_pos h1]
    · rw [if_neg h1, if_neg]
      intro hall
      apply h
      refine ⟨fun h => h1 (Or.inl h), ?_, hall⟩
      have : ¬ 19 < t.length := fun h => h1 (Or.inr (Or.inl h))
      omega

theorem ref_parse (s : ByteArray) {k : Nat} (hk : 50 < k) : changelingref01_Parse.f k s = some (readL (bs s)) := by
  have hls := bs_length s
  obtain ⟨k, rfl⟩ : ∃ m, k = m + 1 := ⟨k - 1, by omega⟩
  unfold changelingref01_Parse.f readL
  by_cases h0 : (s.size : Int) > 0
  · rw [if_pos h0, if_pos (by omega)]
    obtain ⟨hh, hnn⟩ := head_bt s (by omega)
    have e : ((bs s).head? == some 45) = (bt s 0 == 45) := by
      rw [hh, Bool.eq_iff_iff]; simp; omega
    rw [e]
    simp only [changelingref01_Parse.j0]
    by_cases hm : (bt s 0 == 45) = true
    · rw [if_pos hm, if_pos (by omega), ref_j1 s _ _ (by omega), bs_tail, hm, core true _ (bs s)]
      · simp
      · rw [if_pos rfl]
        have hm' : (bs s).head? = some 45 := by rw [← e] at hm; simpa using hm
        cases hb : bs s with
        | nil => rw [hb] at hm'; simp at hm'
        | cons x y => rw [hb] at hm'; simp at hm'; rw [hm']; rfl
    · rw [if_neg hm, ref_j1 s s _ (by omega)]
      have hm' : (bt s 0 == 45) = false := by simpa using hm
      have hc := core false (bs s) (bs s) (by simp)
      rw [hm', hc]; simp
  · rw [if_neg h0]
    have hn : bs s = [] := List.eq_nil_of_length_eq_zero (by omega)
    simp only [changelingref01_Parse.j0, Bool.false_eq_true, if_false]
    rw [ref_j1 s s _ (by omega), hn]; simp [refL]

/-- YOURS: a number and a text: the law answers true. -/
theorem NumTexts : changelinglaw01_NumTexts.Pure := by
  intro a s ha _
  refine ⟨100, ?_⟩
  unfold changelinglaw01_NumTexts.f
  rw [num_parse s (by omega), ref_parse s (by omega), num_text (wf64 ha), ref_text (wf64 ha) (by omega), known_ok]
  simp

end Go.Proofs.Ytahfiefjngchdaa.Pure
