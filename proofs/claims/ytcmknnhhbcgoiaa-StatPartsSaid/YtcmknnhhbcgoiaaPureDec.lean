/- Plain facts on numbers' texts as stat's tables show them: what is written; no condition. -/
import Derived.Test.YtcmknnhhbcgoiaaPureStat
import Derived.Test.YtcmknnhhbcgoiaaQN3
import Derived.Test.YtcmknnhhbcgoiaaQN10
import Derived.Laws.Strings
namespace Go.Proofs.Ytcmknnhhbcgoiaa.Pure
open Go.RowKit Go.Proofs.Ytcmknnhhbcgoiaa.QN Go.Proofs.YtcmknnhhbcgoiaaW.PrintWords Go.Proofs.YtcmknnhhbcgoiaaW.PrintLast
set_option linter.unusedVariables false
set_option linter.unusedSimpArgs false
theorem wu (n : Int) : IntKind.u64.wrap n = n % 18446744073709551616 := by simp [IntKind.wrap, IntKind.bits, IntKind.signed]
theorem wu_id {n : Int} (h : 0 ≤ n) (h2 : n < 18446744073709551616) : IntKind.u64.wrap n = n := by rw [wu]; omega
theorem size_f {a : Int} (h : -9223372036854775808 ≤ a ∧ a ≤ 9223372036854775807) : changelingref01_Size.f a = some (a.natAbs : Int) := by
  unfold changelingref01_Size.f
  split
  · congr 1; rw [wu, wu]; omega
  · congr 1; rw [wu]; omega


/-! ### bytes as numbers -/
def bs (s : ByteArray) : List Nat := s.data.toList.map UInt8.toNat
def sb (l : List Nat) : ByteArray := ⟨(l.map UInt8.ofNat).toArray⟩
theorem bs_length (s : ByteArray) : (bs s).length = s.size := by unfold bs; rw [List.length_map, Array.length_toList]; rfl
theorem sb_size (l : List Nat) : (sb l).size = l.length := by simp [sb, ByteArray.size]
theorem bt_bs (s : ByteArray) (i : Nat) (h : i < s.size) : bt s (i : Int) = (((bs s)[i]'(by rw [bs_length]; exact h) : Nat) : Int) := by
  unfold bt
  rw [dif_pos (by simpa using h)]
  simp only [bs, List.getElem_map, Int.toNat_natCast]
  rfl
theorem toList_data (s : ByteArray) : s.toList = s.data.toList := ByteArray.toList_eq s
theorem toList_iff (a b : ByteArray) : a.toList = b.toList ↔ bs a = bs b := by
  rw [toList_data, toList_data]
  unfold bs
  constructor
  · intro h; rw [h]
  · intro h
    have hi : Function.Injective UInt8.toNat := fun x y => UInt8.toNat_inj.1
    exact (List.map_inj_right (fun x y => UInt8.toNat_inj.1)).1 h
theorem bs_sb {l : List Nat} (h : ∀ c ∈ l, c < 256) : bs (sb l) = l := by
  unfold bs sb
  simp only [List.map_map]
  conv => rhs; rw [← List.map_id l]
  apply List.map_congr_left
  intro c hc
  have := h c hc
  simp
  omega

theorem head_app {α : Type} {a : List α} (b : List α) (h : a ≠ []) : (a ++ b).head? = a.head? := by
  cases a with
  | nil => exact absurd rfl h
  | cons x y => rfl

/-! ### digits -/
/-- A number's digits. -/
def dig : Nat → Nat → List Nat
  | 0, _ => []
  | f + 1, n => if n < 10 then [48 + n] else dig f (n / 10) ++ [48 + n % 10]
/-- The number of some digits. -/
def val (l : List Nat) : Nat := l.foldl (fun v c => v * 10 + (c - 48)) 0
def isDig (c : Nat) : Bool := decide (48 ≤ c) && decide (c ≤ 57)
theorem val_snoc (l : List Nat) (c : Nat) : val (l ++ [c]) = val l * 10 + (c - 48) := by simp [val, List.foldl_append]
theorem dig_all : ∀ f n, ∀ c ∈ dig f n, isDig c = true := by
  intro f
  induction f with
  | zero => intro n c h; simp [dig] at h
  | succ f ih =>
    intro n c h
    simp only [dig] at h
    split at h
    · simp at h; subst h; simp [isDig]; omega
    · rw [List.mem_append] at h
      rcases h with h | h
      · exact ih _ _ h
      · simp at h; subst h; simp [isDig]; omega
theorem dig_lt (f n : Nat) : ∀ c ∈ dig f n, c < 256 := fun c h => by
  have := dig_all f n c h
  simp [isDig] at this; omega
theorem dig_length : ∀ f n, (dig f n).length ≤ f := by
  intro f
  induction f with
  | zero => intro n; simp [dig]
  | succ f ih =>
    intro n
    simp only [dig]
    split
    · simp
    · have := ih (n / 10); simp; omega
theorem dig_fuel : ∀ f n, n < 10 ^ f → ∀ g, f ≤ g → 0 < g → dig g n = dig (f + 1) n := by
  intro f
  induction f with
  | zero =>
    intro n h g _ hg
    obtain ⟨g, rfl⟩ : ∃ m, g = m + 1 := ⟨g - 1, by omega⟩
    have : n = 0 := by simpa using h
    subst this; simp [dig]
  | succ f ih =>
    intro n h g hg hg0
    obtain ⟨g, rfl⟩ : ∃ m, g = m + 1 := ⟨g - 1, by omega⟩
    by_cases h10 : n < 10
    · simp [dig, h10]
    · have hp : n / 10 < 10 ^ f := by rw [Nat.pow_succ] at h; omega
      have hf : 0 < f := by
        rcases Nat.eq_zero_or_pos f with h0 | h0
        · subst h0; simp at h; omega
        · exact h0
      have e1 := ih (n / 10) hp g (by omega) (by omega)
      show (if n < 10 then _ else _) = (if n < 10 then _ else _)
      rw [if_neg h10, if_neg h10, e1]
theorem dig_val : ∀ f n, n < 10 ^ f → 0 < f → val (dig f n) = n := by
  intro f
  induction f with
  | zero => intro n _ h; omega
  | succ f ih =>
    intro n h _
    simp only [dig]
    split
    · simp [val]
    · rename_i h10
      have hp : n / 10 < 10 ^ f := by rw [Nat.pow_succ] at h; omega
      have hf : 0 < f := by
        rcases Nat.eq_zero_or_pos f with h0 | h0
        · subst h0; simp at h; omega
        · exact h0
      rw [val_snoc, ih _ hp hf]; omega
theorem dig_head : ∀ f n, n < 10 ^ f → 0 < n → (dig f n).head? ≠ some 48 ∧ dig f n ≠ [] := by
  intro f
  induction f with
  | zero => intro n h h0; simp at h; omega
  | succ f ih =>
    intro n h h0
    simp only [dig]
    split
    · simp; omega
    · rename_i h10
      have hp : n / 10 < 10 ^ f := by rw [Nat.pow_succ] at h; omega
      obtain ⟨a, b⟩ := ih (n / 10) hp (by omega)
      refine ⟨?_, by simp⟩
      rw [head_app _ b]; exact a
/-- Digits that do not begin with a zero (or are one digit) are those of their number. -/
theorem canon : ∀ (m : Nat) (l : List Nat), l.length = m + 1 → (∀ c ∈ l, isDig c = true) → (l.head? ≠ some 48 ∨ l.length = 1) → ∀ f, m < f → dig f (val l) = l ∧ (l.head? ≠ some 48 → 0 < val l) := by
  intro m
  induction m with
  | zero =>
    intro l hl hd _ f hf
    obtain ⟨f, rfl⟩ : ∃ g, f = g + 1 := ⟨f - 1, by omega⟩
    match l, hl with
    | [c], _ =>
      have := hd c (by simp)
      simp [isDig] at this
      have e : val [c] = c - 48 := by simp [val]
      rw [e]
      simp only [dig]
      rw [if_pos (by omega)]
      refine ⟨by congr 1; omega, fun h => ?_⟩
      simp at h; omega
  | succ m ih =>
    intro l hl hd hh f hf
    obtain ⟨f, rfl⟩ : ∃ g, f = g + 1 := ⟨f - 1, by omega⟩
    have hne : l ≠ [] := by intro h; subst h; simp at hl
    obtain ⟨t, c, rfl⟩ : ∃ t c, l = t ++ [c] := ⟨l.dropLast, l.getLast hne, (List.dropLast_concat_getLast hne).symm⟩
    have ht : t.length = m + 1 := by simp at hl; omega
    have htne : t ≠ [] := by intro h; subst h; simp at ht
    have hh' : t.head? ≠ some 48 := by
      rcases hh with h | h
      · rwa [head_app _ htne] at h
      · have hl2 : (t ++ [c]).length = t.length + 1 := by simp
        omega
    have hc := hd c (by simp)
    simp [isDig] at hc
    obtain ⟨e, p⟩ := ih t ht (fun x hx => hd x (by simp [hx])) (Or.inl hh') f (by omega)
    have p := p hh'
    rw [val_snoc]
    refine ⟨?_, fun _ => by omega⟩
    simp only [dig]
    rw [if_neg (by omega), show (val t * 10 + (c - 48)) / 10 = val t by omega, e]
    congr 1
    congr 1
    omega
theorem val_lt : ∀ (n : Nat) (l : List Nat), l.length = n → (∀ c ∈ l, isDig c = true) → val l < 10 ^ n := by
  intro n
  induction n with
  | zero => intro l h _; have := List.eq_nil_of_length_eq_zero h; subst this; simp [val]
  | succ n ih =>
    intro l hl hd
    have hne : l ≠ [] := by intro h; subst h; simp at hl
    obtain ⟨t, c, rfl⟩ : ∃ t c, l = t ++ [c] := ⟨l.dropLast, l.getLast hne, (List.dropLast_concat_getLast hne).symm⟩
    have := ih t (by simp at hl; omega) (fun x hx => hd x (by simp [hx]))
    have hc := hd c (by simp)
    simp [isDig] at hc
    rw [val_snoc, Nat.pow_succ]; omega

/-! ### what is written -/
def txtL (a : Int) : List Nat := (if a < 0 then [45] else []) ++ dig 25 a.natAbs
theorem txtL_lt (a : Int) : ∀ c ∈ txtL a, c < 256 := by
  intro c h
  unfold txtL at h
  rw [List.mem_append] at h
  rcases h with h | h
  · split at h
    · simp at h; omega
    · simp at h
  · exact dig_lt _ _ _ h
theorem one_digit : ∀ d : Nat, d < 10 → (⟨#[48, 49, 50, 51, 52, 53, 54, 55, 56, 57]⟩ : ByteArray).extract d (d + 1) = sb [48 + d] := by decide +kernel
theorem sb_append (a b : List Nat) : sb a ++ sb b = sb (a ++ b) := by
  apply bytes_eq
  simp [sb]
where bytes_eq {a b : ByteArray} (h : a.data = b.data) : a = b := by cases a; cases b; simp_all
theorem digits_f : ∀ (f n k : Nat), f < 40 → n < 10 ^ f → n < 18446744073709551616 → f < k → changelingref01_Digits.f k (n : Int) = some (sb (dig (f + 1) n)) := by
  intro f
  induction f with
  | zero =>
    intro n k _ h _ hk
    have : n = 0 := by simpa using h
    subst this
    obtain ⟨k, rfl⟩ : ∃ m, k = m + 1 := ⟨k - 1, by omega⟩
    simp only [changelingref01_Digits.f]
    rw [wu_id (by omega) (by omega), if_pos (by omega), if_pos (by omega), if_pos (by omega), if_pos (by omega)]
    congr 1
  | succ f ih =>
    intro n k hf h hu hk
    obtain ⟨k, rfl⟩ : ∃ m, k = m + 1 := ⟨k - 1, by omega⟩
    simp only [changelingref01_Digits.f]
    by_cases h10 : n < 10
    · rw [if_pos (by omega), wu_id (by omega) (by omega), if_pos (by omega), if_pos (by omega), if_pos (by omega)]
      have e := one_digit n h10
      congr 1
      simp only [dig]
      rw [if_pos h10, ← e]
      congr 1
    · rw [if_neg (by omega)]
      have e1 : IntKind.u64.wrap (Int.tdiv (n : Int) 10) = ((n / 10 : Nat) : Int) := by
        rw [Int.tdiv_eq_ediv_of_nonneg (by omega), wu_id (by omega) (by omega)]; omega
      have e2 : Int.tmod (n : Int) 10 = ((n % 10 : Nat) : Int) := by
        rw [Int.tmod_eq_emod_of_nonneg (by omega)]; omega
      have e3 : IntKind.u64.wrap (((n % 10 : Nat) : Int) + 1) = ((n % 10 + 1 : Nat) : Int) := by rw [wu_id (by omega) (by omega)]; omega
      have hp : n / 10 < 10 ^ f := by rw [Nat.pow_succ] at h; omega
      rw [e1, ih (n / 10) k (by omega) hp (by omega) (by omega)]
      simp only [Option.bind_some]
      rw [e2, e3, if_pos (by omega), if_pos (by omega), if_pos (by omega), Int.toNat_natCast, Int.toNat_natCast, one_digit _ (by omega)]
      have hsz := dig_length (f + 1) (n / 10)
      rw [if_pos (by rw [sb_size, sb_size]; simp; omega), sb_append]
      congr 2
      conv => rhs; unfold dig
      rw [if_neg h10]

theorem text_bound {a : Int} (h : -9223372036854775808 ≤ a ∧ a ≤ 9223372036854775807) : a.natAbs < 10 ^ 20 ∧ a.natAbs < 18446744073709551616 := by
  have : (10 : Nat) ^ 20 = 100000000000000000000 := by decide
  rw [this]; omega
theorem ref_text {a : Int} (h : -9223372036854775808 ≤ a ∧ a ≤ 9223372036854775807) {k : Nat} (hk : 30 < k) : changelingref01_Text.f k a = some (sb (txtL a)) := by
  obtain ⟨h1, h2⟩ := text_bound h
  have hd : changelingref01_Digits.f k (a.natAbs : Int) = some (sb (dig 21 a.natAbs)) := digits_f 20 a.natAbs k (by omega) h1 h2 (by omega)
  have hf : dig 25 a.natAbs = dig 21 a.natAbs := dig_fuel 20 _ h1 25 (by omega) (by omega)
  unfold changelingref01_Text.f txtL
  rw [size_f h]
  simp only [Option.bind_some]
  rw [hd, hf]
  simp only [Option.bind_some]
  by_cases hn : a < 0
  · rw [if_pos hn, if_pos (by rw [sb_size]; have := dig_length 21 a.natAbs; omega), if_pos hn]
    exact congrArg some (sb_append [45] (dig 21 a.natAbs))
  · rw [if_neg hn, if_neg hn]; rfl


/-! ### what the program writes -/
/-- A number's digits, from the last one on; none of zero. -/
def rz : Nat → Nat → List Int
  | 0, _ => []
  | f + 1, n => if n = 0 then [] else ((48 + n % 10 : Nat) : Int) :: rz f (n / 10)
def ints (l : List Nat) : List Int := l.map fun (c : Nat) => (c : Int)
theorem rz_dig : ∀ f n, n < 10 ^ f → 0 < n → ints (dig (f + 1) n) = (rz f n).reverse := by
  intro f
  induction f with
  | zero => intro n h h0; simp at h; omega
  | succ f ih =>
    intro n h h0
    show ints (if n < 10 then _ else _) = _
    simp only [rz]
    rw [if_neg (show ¬ n = 0 by omega)]
    by_cases h10 : n < 10
    · rw [if_pos h10]
      have : n / 10 = 0 := by omega
      rw [this, Nat.mod_eq_of_lt h10]
      cases f <;> simp [rz, ints]
    · rw [if_neg h10]
      have hp : n / 10 < 10 ^ f := by rw [Nat.pow_succ] at h; omega
      have := ih (n / 10) hp (by omega)
      unfold ints at this ⊢
      rw [List.map_append, this, List.reverse_cons]
      rfl
theorem strOf_ints (l : List Nat) : strOfNums (ints l) = sb l := by
  unfold strOfNums ints sb
  rw [List.map_map]
  congr 2

/-- What stands behind the digits' loop. -/
def tailOf (k : Nat) (x0 : Int) (l : List Int) : Option ByteArray := if x0 < 0 then (if l.length < 140737488355328 then (num_Text.j2 k (l ++ [45])) else (none)) else (num_Text.j2 k l)
theorem text_l0 (x0 : Int) : ∀ (f u : Nat) (acc : List Int) (k : Nat), u < 10 ^ f → u < 18446744073709551616 → acc ≠ [] → acc.length + f < 100 → f < k → ∃ k', k ≤ k' + f + 1 ∧ num_Text.l0 k x0 (u : Int) acc = tailOf k' x0 (acc ++ rz f u) := by
  intro f
  induction f with
  | zero =>
    intro u acc k h _ hne hl hk
    have : u = 0 := by simpa using h
    subst this
    obtain ⟨k, rfl⟩ : ∃ m, k = m + 1 := ⟨k - 1, by omega⟩
    refine ⟨k, by omega, ?_⟩
    simp only [num_Text.l0]
    rw [if_neg (by omega), if_neg (by have := List.length_pos_iff.2 hne; omega)]
    simp [tailOf, rz]
  | succ f ih =>
    intro u acc k h hu hne hl hk
    obtain ⟨k, rfl⟩ : ∃ m, k = m + 1 := ⟨k - 1, by omega⟩
    simp only [num_Text.l0]
    by_cases h0 : u = 0
    · subst h0
      refine ⟨k, by omega, ?_⟩
      rw [if_neg (by omega), if_neg (by have := List.length_pos_iff.2 hne; omega)]
      simp [tailOf, rz]
    · have hp : u / 10 < 10 ^ f := by rw [Nat.pow_succ] at h; omega
      have e1 : IntKind.u64.wrap (Int.tdiv (u : Int) 10) = ((u / 10 : Nat) : Int) := by
        rw [Int.tdiv_eq_ediv_of_nonneg (by omega), wu_id (by omega) (by omega)]; omega
      have e2 : (IntKind.u64.wrap (48 + Int.tmod (u : Int) 10)) % 256 = ((48 + u % 10 : Nat) : Int) := by
        rw [Int.tmod_eq_emod_of_nonneg (by omega), wu_id (by omega) (by omega)]; omega
      rw [if_pos (by omega), if_pos (by omega), e1, e2]
      obtain ⟨k', hk', he⟩ := ih (u / 10) (acc ++ [((48 + u % 10 : Nat) : Int)]) k hp (by omega) (by simp) (by simp; omega) (by omega)
      refine ⟨k', by omega, ?_⟩
      rw [he]
      simp only [rz]
      rw [if_neg h0]
      simp
theorem text_start (x0 : Int) (f u k : Nat) (h : u < 10 ^ f) (hu : u < 18446744073709551616) (hf : f < 90) (hk : f + 1 < k) :
    ∃ k', k ≤ k' + f + 2 ∧ num_Text.l0 k x0 (u : Int) [] = tailOf k' x0 (ints (dig (f + 1) u)).reverse := by
  obtain ⟨k, rfl⟩ : ∃ m, k = m + 1 := ⟨k - 1, by omega⟩
  have e1 : IntKind.u64.wrap (Int.tdiv (u : Int) 10) = ((u / 10 : Nat) : Int) := by
    rw [Int.tdiv_eq_ediv_of_nonneg (by omega), wu_id (by omega) (by omega)]; omega
  have e2 : (IntKind.u64.wrap (48 + Int.tmod (u : Int) 10)) % 256 = ((48 + u % 10 : Nat) : Int) := by
    rw [Int.tmod_eq_emod_of_nonneg (by omega), wu_id (by omega) (by omega)]; omega
  by_cases h0 : u = 0
  · subst h0
    obtain ⟨k', hk', he⟩ := text_l0 x0 0 0 [48] k (by simp) (by omega) (by simp) (by simp) (by omega)
    refine ⟨k', by omega, ?_⟩
    simp only [num_Text.l0]
    rw [if_neg (by omega), if_pos (show (([] : List Int).length : Int) = 0 from rfl), if_pos (by simp), e1, e2]
    have : ([] ++ [((48 + 0 % 10 : Nat) : Int)]) = [48] := rfl
    rw [this]
    have e0 : ((0 / 10 : Nat) : Int) = ((0 : Nat) : Int) := rfl
    rw [e0, he]
    simp [rz, dig, ints]
  · obtain ⟨f, rfl⟩ : ∃ g, f = g + 1 := ⟨f - 1, by
      rcases Nat.eq_zero_or_pos f with hz | hz
      · subst hz; simp at h; omega
      · omega⟩
    have hp : u / 10 < 10 ^ f := by rw [Nat.pow_succ] at h; omega
    obtain ⟨k', hk', he⟩ := text_l0 x0 f (u / 10) [((48 + u % 10 : Nat) : Int)] k hp (by omega) (by simp) (by simp; omega) (by omega)
    refine ⟨k', by omega, ?_⟩
    simp only [num_Text.l0]
    rw [if_pos (by omega), if_pos (by simp), e1, e2, List.nil_append, he, rz_dig (f + 1) u h (by omega), List.reverse_reverse]
    simp only [rz]
    rw [if_neg h0]
    rfl

theorem rd_nat (l : List Int) (i : Nat) (h : i < l.length) : rd l (i : Int) = l[i] := by
  unfold rd
  rw [Int.toNat_natCast, List.getD_eq_getElem?_getD, List.getElem?_eq_getElem h]
  rfl
/-- The loop that turns a row round. -/
theorem turn (L0 : List Int) (hn : L0.length < 1000) : ∀ (d i j : Nat) (L : List Int) (k : Nat), j - i = d → i + j + 1 = L0.length → d < k → L.length = L0.length →
    (∀ m (h : m < L0.length) (h' : m < L.length), L[m] = if m < i ∨ j < m then L0[L0.length - 1 - m]'(by omega) else L0[m]) →
    num_Text.l1 k L (i : Int) (j : Int) = some (strOfNums L0.reverse) := by
  intro d
  induction d using Nat.strongRecOn with
  | _ d ih =>
    intro i j L k hd hs hk hL hin
    obtain ⟨k, rfl⟩ : ∃ m, k = m + 1 := ⟨k - 1, by omega⟩
    simp only [num_Text.l1]
    by_cases hij : i < j
    · have ei : wrap64 ((i : Int) + 1) = ((i + 1 : Nat) : Int) := by unfold wrap64; omega
      have ej : wrap64 ((j : Int) - 1) = ((j - 1 : Nat) : Int) := by unfold wrap64; omega
      rw [if_pos (by omega), if_pos (by omega), if_pos (by omega), if_pos (by omega), if_pos (by omega), ei, ej, Int.toNat_natCast, Int.toNat_natCast, rd_nat L i (by omega), rd_nat L j (by omega)]
      by_cases hne : i + 1 ≤ j - 1
      · refine ih (j - 1 - (i + 1)) (by omega) (i + 1) (j - 1) _ k rfl (by omega) (by omega) (by simp; omega) ?_
        intro m hm hm'
        have h1 := hin i (by omega) (by omega)
        have h2 := hin j (by omega) (by omega)
        have h3 := hin m hm (by simpa using hm')
        rw [if_neg (by omega)] at h1 h2
        simp only [List.getElem_set]
        by_cases e1 : j = m
        · subst e1
          rw [if_pos rfl, if_pos (by omega), h1]
          congr 1; omega
        · rw [if_neg e1]
          by_cases e2 : i = m
          · subst e2
            rw [if_pos rfl, if_pos (by omega), h2]
            congr 1; omega
          · rw [if_neg e2, h3]
            by_cases hm1 : m < i ∨ j < m
            · rw [if_pos hm1, if_pos (by omega)]
            · rw [if_neg hm1, if_neg (by omega)]
      · -- the last round
        obtain ⟨k, rfl⟩ : ∃ m, k = m + 1 := ⟨k - 1, by omega⟩
        simp only [num_Text.l1]
        rw [if_neg (by omega)]
        congr 2
        apply List.ext_getElem (by simp; omega)
        intro m hm hm'
        have hm0 : m < L0.length := by simpa using hm'
        have h1 := hin i (by omega) (by omega)
        have h2 := hin j (by omega) (by omega)
        have h3 := hin m hm0 (by omega)
        rw [if_neg (by omega)] at h1 h2
        rw [List.getElem_reverse]
        simp only [List.getElem_set]
        by_cases e1 : j = m
        · subst e1
          rw [if_pos rfl, h1]
          congr 1; omega
        · rw [if_neg e1]
          by_cases e2 : i = m
          · subst e2
            rw [if_pos rfl, h2]
            congr 1; omega
          · rw [if_neg e2, h3, if_pos (by omega)]
    · rw [if_neg (by omega)]
      congr 2
      apply List.ext_getElem (by simp; omega)
      intro m hm hm'
      have hm0 : m < L0.length := by simpa using hm'
      have h3 := hin m hm0 hm
      rw [List.getElem_reverse, h3]
      by_cases hm1 : m < i ∨ j < m
      · rw [if_pos hm1]
      · rw [if_neg hm1]
        congr 1; omega
theorem turned (L0 : List Int) (hn : L0.length < 1000) (h0 : L0 ≠ []) (k : Nat) (hk : L0.length < k) : num_Text.j2 (k + 1) L0 = some (strOfNums L0.reverse) := by
  have := List.length_pos_iff.2 h0
  simp only [num_Text.j2]
  have e : wrap64 ((L0.length : Int) - 1) = ((L0.length - 1 : Nat) : Int) := by unfold wrap64; omega
  rw [e]
  exact turn L0 hn (L0.length - 1 - 0) 0 (L0.length - 1) L0 k rfl (by omega) (by omega) rfl (fun m h h' => by rw [if_neg (by omega)])
theorem num_text {a : Int} (h : -9223372036854775808 ≤ a ∧ a ≤ 9223372036854775807) : num_Text.f 100 a = some (sb (txtL a)) := by
  obtain ⟨h1, h2⟩ := text_bound h
  have e : (if a < 0 then IntKind.u64.wrap (-(IntKind.u64.wrap a)) else IntKind.u64.wrap a) = (a.natAbs : Int) := by
    split
    · rw [wu, wu]; omega
    · rw [wu]; omega
  have e' : num_Text.f 100 a = num_Text.j0 100 a (if a < 0 then IntKind.u64.wrap (-(IntKind.u64.wrap a)) else IntKind.u64.wrap a) := by
    unfold num_Text.f; split <;> rfl
  rw [e', e]
  show num_Text.l0 99 a (a.natAbs : Int) [] = _
  obtain ⟨k', hk', he⟩ := text_start a 24 a.natAbs 99 (Nat.lt_of_lt_of_le h1 (Nat.pow_le_pow_right (by decide) (by decide))) h2 (by omega) (by omega)
  rw [he]
  have hl := dig_length 25 a.natAbs
  have hne : dig 25 a.natAbs ≠ [] := by
    intro h0
    have hv := dig_val 25 a.natAbs (Nat.lt_of_lt_of_le h1 (Nat.pow_le_pow_right (by decide) (by decide))) (by decide)
    rw [h0] at hv
    have hz : a.natAbs = 0 := hv.symm
    rw [hz] at h0
    simp [dig] at h0
  have hil : (ints (dig 25 a.natAbs)).length = (dig 25 a.natAbs).length := by simp [ints]
  have hine : ints (dig 25 a.natAbs) ≠ [] := by simpa [ints] using hne
  obtain ⟨k', rfl⟩ : ∃ m, k' = m + 1 := ⟨k' - 1, by omega⟩
  unfold tailOf txtL
  by_cases hn : a < 0
  · rw [if_pos hn, if_pos (by simp; omega), turned _ (by simp; omega) (by simp) k' (by simp; omega), if_pos hn]
    congr 1
    rw [← strOf_ints]
    simp [ints]
  · rw [if_neg hn, turned _ (by simp; omega) (by simpa using hine) k' (by simp; omega), if_neg hn]
    congr 1
    rw [← strOf_ints]
    simp [ints]

end Go.Proofs.Ytcmknnhhbcgoiaa.Pure
