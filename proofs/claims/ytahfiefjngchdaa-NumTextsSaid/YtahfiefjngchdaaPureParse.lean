/- Plain facts on the reading of numbers' texts, by the program and by the reference; no condition. -/
import Derived.Test.YtahfiefjngchdaaPureText
import Derived.Test.YtahfiefjngchdaaQN3
namespace Go.Proofs.Ytahfiefjngchdaa.Pure
open Go.RowKit Go.Proofs.Ytahfiefjngchdaa.QN Go.Proofs.YtahfiefjngchdaaW.PrintWords Go.Proofs.YtahfiefjngchdaaW.PrintLast

def fin (b : Bool) (v : Nat) : Int × Int :=
  if v > 9223372036854775808 ∨ (v = 9223372036854775808 ∧ b = false) then (0, 11)
  else if b then (-(v : Int), 0) else ((v : Int), 0)
/-- What is read of digits behind a sign. -/
def readD (b : Bool) (l : List Nat) : Int × Int := if l.all isDig then fin b (val l) else (0, 11)

theorem j4_bad (b : Bool) (v : Int) (k : Nat) : num_Parse.j4 (k + 2) b v false = some (0, 11) := by
  simp [num_Parse.j4, num_Parse.j5]
theorem j4_good (b : Bool) (v k : Nat) (hv : v < 18446744073709551616) : num_Parse.j4 (k + 2) b (v : Int) true = some (fin b v) := by
  have e1 : v ≤ 9223372036854775808 → wrap64 (IntKind.u64.wrap (-(v : Int))) = -(v : Int) := fun h => by rw [w64_wu, w64_id (by omega) (by omega)]
  have e2 : v < 9223372036854775808 → wrap64 (v : Int) = (v : Int) := fun h => w64_id (by omega) (by omega)
  simp only [num_Parse.j4, if_true]
  by_cases h1 : (v : Int) > 9223372036854775808
  · rw [if_pos h1]
    simp only [num_Parse.j5, if_true]
    unfold fin; rw [if_pos (by omega)]
  · rw [if_neg h1]
    by_cases h2 : (v : Int) = 9223372036854775808
    · rw [if_pos h2]
      cases b
      · simp [num_Parse.j5, fin]; omega
      · simp only [num_Parse.j5, Bool.not_true, Bool.false_eq_true, if_false, if_true]
        rw [e1 (by omega)]
        unfold fin; rw [if_neg (by simp; omega)]; simp
    · rw [if_neg h2]
      simp only [num_Parse.j5, Bool.false_eq_true, if_false]
      cases b
      · simp only [Bool.false_eq_true, if_false]
        rw [e2 (by omega)]; unfold fin; rw [if_neg (by omega)]; simp
      · simp only [if_true]
        rw [e1 (by omega)]
        unfold fin; rw [if_neg (by simp; omega)]; simp

theorem all_take {l : List Nat} {n : Nat} (h : (l.take n).all isDig = false) : l.all isDig = false := by
  rw [List.all_eq_false] at h ⊢
  obtain ⟨x, hx, hd⟩ := h
  exact ⟨x, List.mem_of_mem_take hx, hd⟩
theorem byte_lt (s : ByteArray) : ∀ c ∈ bs s, c < 256 := by
  intro c h
  unfold bs at h
  obtain ⟨x, _, rfl⟩ := List.mem_map.1 h
  exact UInt8.toNat_lt x
theorem take_succ_bs (l : List Nat) (i : Nat) (h : i < l.length) : l.take (i + 1) = l.take i ++ [l[i]] := by
  rw [List.take_succ_eq_append_getElem h]
theorem pow19 {n : Nat} (h : n ≤ 19) : 10 ^ n ≤ 10000000000000000000 :=
  Nat.le_trans (Nat.pow_le_pow_right (by decide) h) (by decide)

theorem parse_l0 (t : ByteArray) (b : Bool) (hs : t.size ≤ 19) : ∀ (d i k : Nat), i + d = t.size → d + 2 < k → (((bs t).take i).all isDig = true) →
    num_Parse.l0 k t b (val ((bs t).take i) : Int) true (i : Int) = some (readD b (bs t)) := by
  have hl := bs_length t
  intro d
  induction d with
  | zero =>
    intro i k hi hk hall
    obtain ⟨k, rfl⟩ : ∃ m, k = m + 3 := ⟨k - 3, by omega⟩
    have : (bs t).take i = bs t := List.take_of_length_le (by omega)
    rw [this] at hall ⊢
    have hv := val_lt (bs t).length (bs t) rfl (fun c hc => List.all_eq_true.1 hall c hc)
    have hp := pow19 (n := (bs t).length) (by omega)
    simp only [num_Parse.l0]
    rw [if_neg (by omega), j4_good b _ k (by omega)]
    unfold readD; rw [if_pos hall]
  | succ d ih =>
    intro i k hi hk hall
    obtain ⟨k, rfl⟩ : ∃ m, k = m + 3 := ⟨k - 3, by omega⟩
    have hb := bt_bs t i (by omega)
    have hc : (bs t)[i] < 256 := byte_lt t _ (List.getElem_mem _)
    have hts := take_succ_bs (bs t) i (by omega)
    simp only [num_Parse.l0]
    rw [if_pos (by omega), if_pos (by omega), hb]
    generalize hcc : (bs t)[i]'(by omega) = c at *
    have bad : isDig c = false → readD b (bs t) = (0, 11) := by
      intro h
      unfold readD
      rw [if_neg]
      rw [all_take (n := i + 1)]
      · simp
      · rw [hts, List.all_append]; simp [h]
    by_cases h1 : (c : Int) < 48
    · rw [if_pos h1, j4_bad, bad (by simp [isDig]; omega)]
    · rw [if_neg h1]
      by_cases h2 : (c : Int) > 57
      · rw [if_pos h2, j4_bad, bad (by simp [isDig]; omega)]
      · rw [if_neg h2]
        have hd : isDig c = true := by simp [isDig]; omega
        have hv := val_lt i ((bs t).take i) (by simp; omega) (fun c hc => List.all_eq_true.1 hall c hc)
        have hp := pow19 (n := i + 1) (by omega)
        rw [Nat.pow_succ] at hp
        have e1 : IntKind.u64.wrap (IntKind.u64.wrap ((val ((bs t).take i) : Int) * 10) + ((c : Int) - 48) % 256) = (val ((bs t).take (i + 1)) : Int) := by
          rw [hts, val_snoc, wu_id (n := (val ((bs t).take i) : Int) * 10) (by omega) (by omega), wu_id (by omega) (by omega)]
          omega
        have e2 : wrap64 ((i : Int) + 1) = ((i + 1 : Nat) : Int) := by unfold wrap64; omega
        rw [e1, e2]
        exact ih (i + 1) (k + 2) (by omega) (by omega) (by rw [hts, List.all_append, hall]; simp [hd])

/-- What is read of a text. -/
def readL (l : List Nat) : Int × Int :=
  let b := l.head? == some 45
  let t := if b then l.tail else l
  if t = [] ∨ 19 < t.length ∨ (t.head? = some 48 ∧ 1 < l.length) then (0, 11) else readD b t

theorem nil_iff (s : ByteArray) : s.toList = ([] : List UInt8) ↔ bs s = [] := by
  rw [toList_data]; unfold bs; simp
theorem bs_tail (s : ByteArray) : bs (s.extract 1 s.size) = (bs s).tail := by
  have hsz : s.size = s.data.toList.length := by rw [Array.length_toList]; rfl
  unfold bs
  rw [ByteArray.data_extract, Array.toList_extract, hsz]
  cases s.data.toList with
  | nil => simp
  | cons x y => simp [List.extract_eq_take_drop]
theorem head_bt (s : ByteArray) (h : 0 < s.size) : (bs s).head? = some (bt s 0).toNat ∧ 0 ≤ bt s 0 := by
  have hb := bt_bs s 0 h
  have hl := bs_length s
  obtain ⟨x, y, hxy⟩ : ∃ x y, bs s = x :: y := by
    cases hb : bs s with
    | nil => rw [hb] at hl; simp at hl; omega
    | cons x y => exact ⟨x, y, rfl⟩
  simp only [hxy, List.getElem_cons_zero] at hb
  have hb' : bt s 0 = (x : Int) := hb
  rw [hxy, hb']
  simp
theorem parse_j1 (s t : ByteArray) (b : Bool) (k : Nat) (hk : 40 < k) :
    num_Parse.j1 k s t b = some (if bs t = [] ∨ 19 < (bs t).length ∨ ((bs t).head? = some 48 ∧ 1 < (bs s).length) then (0, 11) else readD b (bs t)) := by
  have hl := bs_length t
  have hls := bs_length s
  have j2y : ∀ k, num_Parse.j2 (k + 1) t b true = some (0, 11) := fun k => by simp [num_Parse.j2]
  have j2n : ∀ k, 30 < k → t.size ≤ 19 → num_Parse.j2 k t b false = some (readD b (bs t)) := fun k hk ht => by
    obtain ⟨k, rfl⟩ : ∃ m, k = m + 1 := ⟨k - 1, by omega⟩
    simp only [num_Parse.j2, Bool.false_eq_true, if_false]
    have := parse_l0 t b ht t.size 0 k (by omega) (by omega) (by simp)
    simpa [val] using this
  obtain ⟨k, rfl⟩ : ∃ m, k = m + 2 := ⟨k - 2, by omega⟩
  simp only [num_Parse.j1]
  by_cases h1 : bs t = []
  · rw [if_pos ((nil_iff t).2 h1), j2y, if_pos (Or.inl h1)]
  · have hne : t.size ≠ 0 := by intro h; apply h1; apply List.eq_nil_of_length_eq_zero; omega
    rw [if_neg (fun h => h1 ((nil_iff t).1 h))]
    by_cases h2 : (t.size : Int) > 19
    · rw [if_pos h2, j2y, if_pos (Or.inr (Or.inl (by omega)))]
    · rw [if_neg h2, if_pos (by omega)]
      obtain ⟨hh, h0⟩ := head_bt t (by omega)
      by_cases h3 : bt t 0 = 48
      · rw [if_pos h3]
        by_cases h4 : (s.size : Int) > 1
        · rw [decide_eq_true h4, j2y, if_pos (Or.inr (Or.inr ⟨by rw [hh, h3]; rfl, by omega⟩))]
        · rw [decide_eq_false h4, j2n _ (by omega) (by omega), if_neg (by rintro (h | h | h) <;> first | exact h1 h | omega)]
      · rw [if_neg h3, j2n _ (by omega) (by omega), if_neg]
        rintro (h | h | ⟨h, _⟩)
        · exact h1 h
        · omega
        · rw [hh] at h; simp at h; omega
theorem num_parse (s : ByteArray) {k : Nat} (hk : 50 < k) : num_Parse.f k s = some (readL (bs s)) := by
  have hls := bs_length s
  obtain ⟨k, rfl⟩ : ∃ m, k = m + 1 := ⟨k - 1, by omega⟩
  unfold num_Parse.f readL
  by_cases h0 : (s.size : Int) > 0
  · rw [if_pos h0, if_pos (by omega)]
    obtain ⟨hh, hnn⟩ := head_bt s (by omega)
    have e : ((bs s).head? == some 45) = (bt s 0 == 45) := by
      rw [hh, Bool.eq_iff_iff]; simp; omega
    rw [e]
    simp only [num_Parse.j0]
    by_cases hm : (bt s 0 == 45) = true
    · rw [if_pos hm, if_pos (by omega), parse_j1 s _ _ k (by omega), bs_tail, hm]; simp
    · rw [if_neg hm, parse_j1 s s _ k (by omega)]
      have hm' : (bt s 0 == 45) = false := by simpa using hm
      rw [hm']; simp
  · rw [if_neg h0]
    have hn : bs s = [] := List.eq_nil_of_length_eq_zero (by omega)
    simp only [num_Parse.j0, Bool.false_eq_true, if_false]
    rw [parse_j1 s s _ k (by omega), hn]; simp

/-! ### the reference's reading -/
theorem plain_l0 (t : ByteArray) (hs : t.size ≤ 19) : ∀ (d i k : Nat), i + d = t.size → d < k → (((bs t).take i).all isDig = true) →
    changelingref01_plain.l0 k t (val ((bs t).take i) : Int) (i : Int) = some (if (bs t).all isDig then ((val (bs t) : Int), true) else (0, false)) := by
  have hl := bs_length t
  intro d
  induction d with
  | zero =>
    intro i k hi hk hall
    obtain ⟨k, rfl⟩ : ∃ m, k = m + 1 := ⟨k - 1, by omega⟩
    have : (bs t).take i = bs t := List.take_of_length_le (by omega)
    rw [this] at hall ⊢
    simp only [changelingref01_plain.l0]
    rw [if_neg (by omega), if_pos hall]
  | succ d ih =>
    intro i k hi hk hall
    obtain ⟨k, rfl⟩ : ∃ m, k = m + 1 := ⟨k - 1, by omega⟩
    have hb := bt_bs t i (by omega)
    have hc : (bs t)[i] < 256 := byte_lt t _ (List.getElem_mem _)
    have hts := take_succ_bs (bs t) i (by omega)
    simp only [changelingref01_plain.l0]
    rw [if_pos (by omega), if_pos (by omega), hb]
    generalize hcc : (bs t)[i]'(by omega) = c at *
    have bad : isDig c = false → (bs t).all isDig = false := by
      intro h
      apply all_take (n := i + 1)
      rw [hts, List.all_append]; simp [h]
    by_cases h1 : (c : Int) < 48
    · rw [if_pos h1, bad (by simp [isDig]; omega)]; rfl
    · rw [if_neg h1]
      by_cases h2 : (c : Int) > 57
      · rw [if_pos h2, bad (by simp [isDig]; omega)]; rfl
      · rw [if_neg h2]
        have hd : isDig c = true := by simp [isDig]; omega
        have hv := val_lt i ((bs t).take i) (by simp; omega) (fun c hc => List.all_eq_true.1 hall c hc)
        have hp := pow19 (n := i + 1) (by omega)
        rw [Nat.pow_succ] at hp
        have e1 : IntKind.u64.wrap (IntKind.u64.wrap ((val ((bs t).take i) : Int) * 10) + ((c : Int) - 48) % 256) = (val ((bs t).take (i + 1)) : Int) := by
          rw [hts, val_snoc, wu_id (n := (val ((bs t).take i) : Int) * 10) (by omega) (by omega), wu_id (by omega) (by omega)]
          omega
        have e2 : wrap64 ((i : Int) + 1) = ((i + 1 : Nat) : Int) := by unfold wrap64; omega
        rw [e1, e2]
        exact ih (i + 1) k (by omega) (by omega) (by rw [hts, List.all_append, hall]; simp [hd])
theorem ref_plain (t : ByteArray) {k : Nat} (hk : 30 < k) : changelingref01_plain.f k t =
    some (if bs t ≠ [] ∧ (bs t).length ≤ 19 ∧ (bs t).all isDig = true then ((val (bs t) : Int), true) else (0, false)) := by
  have hl := bs_length t
  obtain ⟨k, rfl⟩ : ∃ m, k = m + 1 := ⟨k - 1, by omega⟩
  unfold changelingref01_plain.f
  by_cases h0 : (t.size : Int) = 0
  · rw [if_pos h0]
    have hn : bs t = [] := List.eq_nil_of_length_eq_zero (by omega)
    simp [changelingref01_plain.j0, hn]
  · rw [if_neg h0]
    have hne : bs t ≠ [] := by intro h; rw [h] at hl; simp at hl; omega
    by_cases h1 : (t.size : Int) > 19
    · rw [decide_eq_true h1]
      simp only [changelingref01_plain.j0, if_true]
      rw [if_neg (by omega)]
    · rw [decide_eq_false h1]
      simp only [changelingref01_plain.j0, Bool.false_eq_true, if_false]
      have := plain_l0 t (by omega) t.size 0 k (by omega) (by omega) (by simp)
      rw [show (0 : Int) = (val ((bs t).take 0) : Int) by simp [val]]
      rw [show (0 : Int) = ((0 : Nat) : Int) from rfl] at this
      rw [show ((val ((bs t).take 0) : Nat) : Int) = ((0 : Nat) : Int) by simp [val]] at this ⊢
      rw [this]
      by_cases hall : (bs t).all isDig = true
      · rw [if_pos hall, if_pos ⟨hne, by omega, hall⟩]
      · rw [if_neg hall, if_neg (fun h => hall h.2.2)]

end Go.Proofs.Ytahfiefjngchdaa.Pure
