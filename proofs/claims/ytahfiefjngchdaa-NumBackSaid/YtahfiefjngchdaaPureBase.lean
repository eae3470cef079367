/- Plain arithmetic under the numbers' statements: wraps, the bit by bit quotient and product, what an operator gives; no condition. -/
import Derived.Test.YtahfiefjngchdaaQN4
namespace Go.Proofs.Ytahfiefjngchdaa.Pure
open Go.RowKit Go.Proofs.Ytahfiefjngchdaa.QN Go.Proofs.YtahfiefjngchdaaW.PrintWords Go.Proofs.YtahfiefjngchdaaW.PrintLast Go.Proofs.YtahfiefjngchdaaW.PrintMore

theorem wf64 {a : Int} (h : (Lit.int .i64 a).wf = true) : -9223372036854775808 ≤ a ∧ a ≤ 9223372036854775807 := by
  simp only [Lit.wf, IntKind.min, IntKind.max, IntKind.signed, IntKind.bits, Bool.and_eq_true, decide_eq_true_eq, if_true] at h
  omega
theorem wu (n : Int) : IntKind.u64.wrap n = n % 18446744073709551616 := by simp [IntKind.wrap, IntKind.bits, IntKind.signed]
theorem wu_id {n : Int} (h : 0 ≤ n) (h2 : n < 18446744073709551616) : IntKind.u64.wrap n = n := by rw [wu]; omega
theorem w64_id {n : Int} (h : -9223372036854775808 ≤ n) (h2 : n ≤ 9223372036854775807) : wrap64 n = n := by unfold wrap64; omega
theorem w64_wu (n : Int) : wrap64 (IntKind.u64.wrap n) = wrap64 n := by rw [wu]; unfold wrap64; omega
theorem w64_congr {x y s : Int} (h : x = y + 18446744073709551616 * s) : wrap64 x = wrap64 y := by unfold wrap64; omega
theorem w64_ex (x : Int) : ∃ s, wrap64 x = x + 18446744073709551616 * s := ⟨-((x + 9223372036854775808) / 18446744073709551616), by unfold wrap64; omega⟩
theorem w64_bd (x : Int) : -9223372036854775808 ≤ wrap64 x ∧ wrap64 x ≤ 9223372036854775807 := by unfold wrap64; omega
theorem known_ok : changelinglaw01_known.f 100 = some true := by decide +kernel

theorem wraps_u64 (n : Int) (h₀ : 0 ≤ n) (h₁ : n < 2 ^ 64) : IntKind.u64.wrap n = n := wu_id h₀ (by simpa using h₁)
theorem and_one {x : Int} (h0 : 0 ≤ x) (h1 : x < 18446744073709551616) : Go.bits .and .u64 x 1 = x % 2 := by
  have := bits_mask .u64 64 (by decide) wraps_u64 1 (by decide) x h0 (by simpa using h1)
  simpa using this
theorem or_bit {x y : Int} (h0 : 0 ≤ x) (h1 : x < 18446744073709551616) (he : x % 2 = 0) (hy : y = 0 ∨ y = 1) : Go.bits .or .u64 x y = x + y :=
  bits_join .u64 64 (by decide) wraps_u64 1 x y h0 (by simpa using he) (by simpa using h1) (by omega) (by simp; omega) (by simp; omega)

theorem div_of {x b q r : Int} (h : x = b * q + r) (h0 : 0 ≤ r) (h1 : r < b) : x / b = q ∧ x % b = r := by
  have hb : 0 < b := by omega
  refine ⟨?_, ?_⟩
  · rw [h, Int.add_comm, Int.add_mul_ediv_left _ _ (by omega), Int.ediv_eq_zero_of_lt h0 h1]; omega
  · rw [h, Int.add_comm, Int.add_mul_emod_self_left, Int.emod_eq_of_lt h0 h1]

theorem shl_one {n : Nat} (h : n < 64) : shl .u64 1 (n : Int) = 2 ^ n := by
  unfold shl
  have hb : IntKind.u64.bits = 64 := rfl
  rw [hb, Int.toNat_natCast, Nat.min_eq_left (by omega), Int.one_mul]
  refine wu_id (Int.le_of_lt (Int.pow_pos (by decide))) ?_
  calc (2 : Int) ^ n < 2 ^ 64 := by exact_mod_cast Nat.pow_lt_pow_right (by decide) h
    _ = 18446744073709551616 := by decide
theorem shr_nat {n : Nat} (h : n < 64) (x : Int) : shr .u64 x (n : Int) = x / 2 ^ n := by
  unfold shr
  have hb : IntKind.u64.bits = 64 := rfl
  rw [hb, Int.toNat_natCast, Nat.min_eq_left (by omega)]
theorem shl_nat {n : Nat} (h : n < 64) (x : Int) : shl .u64 x (n : Int) = IntKind.u64.wrap (x * 2 ^ n) := by
  unfold shl
  have hb : IntKind.u64.bits = 64 := rfl
  rw [hb, Int.toNat_natCast, Nat.min_eq_left (by omega)]
theorem p2_pos (n : Nat) : (0 : Int) < 2 ^ n := Int.pow_pos (by decide)
theorem div_step (a : Int) (n : Nat) : a / 2 ^ n = 2 * (a / 2 ^ (n + 1)) + (a / 2 ^ n) % 2 := by
  have h : a / 2 ^ (n + 1) = a / 2 ^ n / 2 := by rw [Int.pow_succ, Int.ediv_ediv_of_nonneg (Int.le_of_lt (p2_pos n))]
  rw [h]; omega

theorem divided_l0 (a b : Int) (ha : 0 ≤ a) (ha2 : a < 18446744073709551616) (hb : 0 < b) (hb2 : b < 18446744073709551616) : ∀ (n : Nat), n ≤ 64 → ∀ (k : Nat), n < k → ∀ i : Int, i = (n : Int) - 1 →
    changelingref01_divided.l0 k a b ((a / 2 ^ n / b) * 2 ^ n) (a / 2 ^ n % b) i = some (a / b, a % b) := by
  intro n
  induction n with
  | zero =>
    intro _ k hk i hi
    obtain ⟨k, rfl⟩ : ∃ m, k = m + 1 := ⟨k - 1, by omega⟩
    simp only [changelingref01_divided.l0]
    rw [if_neg (by omega)]
    simp
  | succ n ih =>
    intro hn k hk i hi
    obtain ⟨k, rfl⟩ : ∃ m, k = m + 1 := ⟨k - 1, by omega⟩
    obtain rfl : i = (n : Int) := by omega
    have hA : a / 2 ^ n = 2 * (a / 2 ^ (n + 1)) + (a / 2 ^ n) % 2 := div_step a n
    have hA0 : 0 ≤ a / 2 ^ n := Int.ediv_nonneg ha (Int.le_of_lt (p2_pos n))
    have hA1 : 0 ≤ a / 2 ^ (n + 1) := Int.ediv_nonneg ha (Int.le_of_lt (p2_pos (n + 1)))
    have hAle : a / 2 ^ n ≤ a := by
      rw [Int.ediv_le_iff_le_mul (p2_pos n)]
      have := p2_pos n
      have h2 : a * 1 ≤ a * 2 ^ n := Int.mul_le_mul_of_nonneg_left (by omega) ha
      omega
    have hr0 := Int.emod_nonneg (a / 2 ^ (n + 1)) (show b ≠ 0 by omega)
    have hr1 := Int.emod_lt_of_pos (a / 2 ^ (n + 1)) hb
    have hdm := Int.mul_ediv_add_emod (a / 2 ^ (n + 1)) b
    have hq0 : 0 ≤ a / 2 ^ (n + 1) / b := Int.ediv_nonneg hA1 (by omega)
    have hsh := shr_nat (show n < 64 by omega) a
    have hs1 := shl_one (show n < 64 by omega)
    have hwn : IntKind.u64.wrap (n : Int) = n := wu_id (by omega) (by omega)
    have hand : Go.bits .and .u64 (a / 2 ^ n) 1 = (a / 2 ^ n) % 2 := and_one hA0 (by omega)
    have hq1 : (a / 2 ^ (n + 1) / b) * 2 ^ (n + 1) < 18446744073709551616 := by
      have h1 : a / 2 ^ (n + 1) / b ≤ a / 2 ^ (n + 1) := by
        rw [Int.ediv_le_iff_le_mul hb]
        have h2 : a / 2 ^ (n + 1) * 1 ≤ a / 2 ^ (n + 1) * b := Int.mul_le_mul_of_nonneg_left (by omega) hA1
        omega
      have h2 := Int.mul_le_mul_of_nonneg_right h1 (Int.le_of_lt (p2_pos (n + 1)))
      have h3 := Int.mul_ediv_add_emod a (2 ^ (n + 1))
      have h4 := Int.emod_nonneg a (show (2 : Int) ^ (n + 1) ≠ 0 by have := p2_pos (n + 1); omega)
      rw [Int.mul_comm] at h3
      omega
    have hor : Go.bits .or .u64 ((a / 2 ^ (n + 1) / b) * 2 ^ (n + 1)) (2 ^ n) = (a / 2 ^ (n + 1) / b) * 2 ^ (n + 1) + 2 ^ n := by
      refine bits_join .u64 64 (by decide) wraps_u64 (n + 1) _ _ (Int.mul_nonneg hq0 (Int.le_of_lt (p2_pos _))) (by simp) (by simpa using hq1) (Int.le_of_lt (p2_pos n)) ?_ ?_
      · rw [Int.pow_succ]; have := p2_pos n; omega
      · exact_mod_cast Nat.pow_lt_pow_right (by decide) (show n < 64 by omega)
    have hw1 : wrap64 ((n : Int) - 1) = (n : Int) - 1 := w64_id (by omega) (by omega)
    have hps : (2 : Int) ^ (n + 1) = 2 * 2 ^ n := by rw [Int.pow_succ]; omega
    generalize hQ : a / 2 ^ (n + 1) / b = Q at *
    generalize hR : a / 2 ^ (n + 1) % b = R at *
    generalize hbit : a / 2 ^ n % 2 = bit at *
    have hb01 : bit = 0 ∨ bit = 1 := by omega
    have hA' : a / 2 ^ n = b * (2 * Q) + (2 * R + bit) := by
      rw [hA, ← hdm]; grind
    simp only [changelingref01_divided.l0]
    rw [if_pos (by omega), hwn, if_pos (by omega), hsh, hand, hs1, hor, hw1]
    by_cases hbig : R ≥ 9223372036854775808
    · rw [if_pos (by omega)]
      have e1 : IntKind.u64.wrap (R * 2) = 2 * R - 18446744073709551616 := by rw [wu]; omega
      have e2 : Go.bits .or .u64 (2 * R - 18446744073709551616) bit = 2 * R - 18446744073709551616 + bit := or_bit (by omega) (by omega) (by omega) hb01
      have e3 : IntKind.u64.wrap (2 * R - 18446744073709551616 + bit - b) = 2 * R + bit - b := by rw [wu]; omega
      rw [e1, e2, e3]
      obtain ⟨d1, d2⟩ := div_of (x := a / 2 ^ n) (b := b) (q := 2 * Q + 1) (r := 2 * R + bit - b) (by rw [hA']; grind) (by omega) (by omega)
      have := ih (by omega) k (by omega) ((n : Int) - 1) rfl
      rw [d1, d2] at this
      rw [← this]
      congr 1
      rw [hps]; grind
    · rw [if_neg (by omega)]
      have e1 : IntKind.u64.wrap (R * 2) = 2 * R := by rw [wu]; omega
      have e2 : Go.bits .or .u64 (2 * R) bit = 2 * R + bit := or_bit (by omega) (by omega) (by omega) hb01
      rw [e1, e2]
      by_cases hge : 2 * R + bit ≥ b
      · rw [if_pos hge]
        have e3 : IntKind.u64.wrap (2 * R + bit - b) = 2 * R + bit - b := by rw [wu]; omega
        rw [e3]
        obtain ⟨d1, d2⟩ := div_of (x := a / 2 ^ n) (b := b) (q := 2 * Q + 1) (r := 2 * R + bit - b) (by rw [hA']; grind) (by omega) (by omega)
        have := ih (by omega) k (by omega) ((n : Int) - 1) rfl
        rw [d1, d2] at this
        rw [← this]
        congr 1
        rw [hps]; grind
      · rw [if_neg hge]
        obtain ⟨d1, d2⟩ := div_of (x := a / 2 ^ n) (b := b) (q := 2 * Q) (r := 2 * R + bit) hA' (by omega) (by omega)
        have := ih (by omega) k (by omega) ((n : Int) - 1) rfl
        rw [d1, d2] at this
        rw [← this]
        congr 1
        rw [hps]; grind

theorem divided_f {a b : Int} (ha : 0 ≤ a) (ha2 : a < 18446744073709551616) (hb : 0 < b) (hb2 : b < 18446744073709551616) {k : Nat} (hk : 64 < k) : changelingref01_divided.f k a b = some (a / b, a % b) := by
  have h := divided_l0 a b ha ha2 hb hb2 64 (by omega) k hk 63 (by omega)
  have e : a / 2 ^ 64 = 0 := Int.ediv_eq_zero_of_lt ha (by simpa using ha2)
  rw [e] at h
  simpa [changelingref01_divided.f] using h

theorem product_l0 (a b : Int) (hb : 0 ≤ b) (hb2 : b < 18446744073709551616) : ∀ (d n : Nat), n + d = 64 → ∀ (k : Nat), d < k → ∀ i : Int, i = (n : Int) →
    changelingref01_product.l0 k a b (IntKind.u64.wrap (a * (b % 2 ^ n))) i = some (IntKind.u64.wrap (a * b)) := by
  intro d
  induction d with
  | zero =>
    intro n hn k hk i hi
    obtain ⟨k, rfl⟩ : ∃ m, k = m + 1 := ⟨k - 1, by omega⟩
    obtain rfl : n = 64 := by omega
    simp only [changelingref01_product.l0]
    rw [if_neg (by omega), Int.emod_eq_of_lt hb (by simpa using hb2)]
  | succ d ih =>
    intro n hn k hk i hi
    obtain ⟨k, rfl⟩ : ∃ m, k = m + 1 := ⟨k - 1, by omega⟩
    subst hi
    have hwn : IntKind.u64.wrap (n : Int) = n := wu_id (by omega) (by omega)
    have hsh := shr_nat (show n < 64 by omega) b
    have hih := ih (n + 1) (by omega) k (by omega) _ rfl
    have hlt : (n : Int) < 64 := by omega
    have hn0 : 0 ≤ (n : Int) := by omega
    have hsl := shl_nat (show n < 64 by omega) a
    have hA0 : 0 ≤ b / 2 ^ n := Int.ediv_nonneg hb (Int.le_of_lt (p2_pos n))
    have hAle : b / 2 ^ n ≤ b := by
      rw [Int.ediv_le_iff_le_mul (p2_pos n)]
      have := p2_pos n
      have h2 : b * 1 ≤ b * 2 ^ n := Int.mul_le_mul_of_nonneg_left (by omega) hb
      omega
    have hand : Go.bits .and .u64 (b / 2 ^ n) 1 = (b / 2 ^ n) % 2 := and_one hA0 (by omega)
    have hw1 : wrap64 ((n : Int) + 1) = ((n + 1 : Nat) : Int) := by rw [w64_id (by omega) (by omega)]; omega
    have hst := div_step b n
    have hps : (2 : Int) ^ (n + 1) = 2 * 2 ^ n := by rw [Int.pow_succ]; omega
    have hm1 := Int.mul_ediv_add_emod b (2 ^ n)
    have hm2 := Int.mul_ediv_add_emod b (2 ^ (n + 1))
    have hmod : b % 2 ^ (n + 1) = b % 2 ^ n + 2 ^ n * ((b / 2 ^ n) % 2) := by
      rw [hps] at hm2 ⊢
      generalize b / 2 ^ n % 2 = t at *
      rw [hps] at hst
      grind
    simp only [changelingref01_product.l0]
    rw [if_pos hlt, hwn, if_pos hn0, hsh, hand, hw1, hsl]
    by_cases hbit : (b / 2 ^ n) % 2 = 1
    · rw [if_pos hbit]
      rw [hmod, hbit] at hih
      rw [← hih]
      congr 1
      rw [wu, wu, wu, wu, Int.mul_one, Int.mul_add, ← Int.add_emod]
    · rw [if_neg hbit]
      rw [hmod, show (b / 2 ^ n) % 2 = 0 by omega] at hih
      rw [← hih]
      congr 2
      rw [Int.mul_zero, Int.add_zero]

theorem product_f {a b : Int} (hb : 0 ≤ b) (hb2 : b < 18446744073709551616) {k : Nat} (hk : 64 < k) : changelingref01_product.f k a b = some (IntKind.u64.wrap (a * b)) := by
  have h := product_l0 a b hb hb2 64 0 (by omega) k hk ((0 : Nat) : Int) rfl
  have e : IntKind.u64.wrap (a * (b % 2 ^ 0)) = 0 := by rw [wu, Int.pow_zero, Int.emod_one, Int.mul_zero]; rfl
  rw [e] at h
  exact h

theorem size_f {a : Int} (h : -9223372036854775808 ≤ a ∧ a ≤ 9223372036854775807) : changelingref01_Size.f a = some (a.natAbs : Int) := by
  unfold changelingref01_Size.f
  split
  · congr 1; rw [wu, wu]; omega
  · congr 1; rw [wu]; omega

/-- What an operator gives. -/
def doSpec (op a b : Int) : Int × Int :=
  if (op = 4 ∨ op = 5) ∧ b = 0 then (0, 10)
  else if op = 1 then (wrap64 (a + b), 0)
  else if op = 2 then (wrap64 (a - b), 0)
  else if op = 3 then (wrap64 (a * b), 0)
  else if op = 4 then (wrap64 (Int.tdiv a b), 0)
  else if op = 5 then (Int.tmod a b, 0)
  else if op = 6 then ((if a = b then 1 else 0), 0)
  else if op = 7 then ((if a = b then 0 else 1), 0)
  else if op = 8 then ((if a < b then 1 else 0), 0)
  else if op = 9 then ((if a ≤ b then 1 else 0), 0)
  else if op = 10 then ((if b < a then 1 else 0), 0)
  else if op = 11 then ((if b ≤ a then 1 else 0), 0)
  else (0, 1)

theorem do_f (op a b : Int) {k : Nat} (hk : 0 < k) : num_Do.f k op a b = some (doSpec op a b) := by
  obtain ⟨k, rfl⟩ : ∃ m, k = m + 1 := ⟨k - 1, by omega⟩
  by_cases h1 : op = 1
  · subst h1; simp [num_Do.f, num_Do.j0, doSpec]
  by_cases h2 : op = 2
  · subst h2; simp [num_Do.f, num_Do.j0, doSpec]
  by_cases h3 : op = 3
  · subst h3; simp [num_Do.f, num_Do.j0, doSpec]
  by_cases h4 : op = 4
  · subst h4
    by_cases hb : b = 0 <;> simp [num_Do.f, num_Do.j0, doSpec, hb]
  by_cases h5 : op = 5
  · subst h5
    by_cases hb : b = 0 <;> simp [num_Do.f, num_Do.j0, doSpec, hb]
  by_cases h6 : op = 6
  · subst h6
    by_cases hb : a = b <;> simp [num_Do.f, num_Do.j0, doSpec, num_Rel.f, num_holds.f, num_truth.f, hb]
  by_cases h7 : op = 7
  · subst h7
    by_cases hb : a = b <;> simp [num_Do.f, num_Do.j0, doSpec, num_Rel.f, num_holds.f, num_truth.f, hb]
  by_cases h8 : op = 8
  · subst h8
    by_cases hb : a < b <;> simp [num_Do.f, num_Do.j0, doSpec, num_Rel.f, num_holds.f, num_truth.f, hb]
  by_cases h9 : op = 9
  · subst h9
    by_cases hb : a ≤ b <;> simp [num_Do.f, num_Do.j0, doSpec, num_Rel.f, num_holds.f, num_truth.f, hb]
  by_cases h10 : op = 10
  · subst h10
    by_cases hb : b < a <;> simp [num_Do.f, num_Do.j0, doSpec, num_Rel.f, num_holds.f, num_truth.f, hb]
  by_cases h11 : op = 11
  · subst h11
    by_cases hb : b ≤ a <;> simp [num_Do.f, num_Do.j0, doSpec, num_Rel.f, num_holds.f, num_truth.f, hb]
  have hr : num_Rel.f op = some false := by
    unfold num_Rel.f
    split
    · congr 1; simp; omega
    · rfl
  simp [num_Do.f, num_Do.j0, doSpec, h1, h2, h3, h4, h5, h6, h7, h8, h9, h10, h11, hr]

theorem does_f (op a b : Int) {k : Nat} (hk : 0 < k) : changelinglaw01_does.f k op a b = some ((doSpec op a b).1, ((doSpec op a b).2 == 0)) := by
  unfold changelinglaw01_does.f; rw [do_f _ _ _ hk]; rfl

end Go.Proofs.Ytahfiefjngchdaa.Pure
