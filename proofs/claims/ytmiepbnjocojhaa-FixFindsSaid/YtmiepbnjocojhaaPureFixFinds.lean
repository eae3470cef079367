/- The plain statement of FixFinds: how an operator binds is found as the document says; no condition. -/
import Derived.Test.YtmiepbnjocojhaaQN10
import Derived.Test.YtmiepbnjocojhaaPureFixResolves
namespace Go.Proofs.Ytmiepbnjocojhaa.Pure
open Go.RowKit Go.Proofs.Ytmiepbnjocojhaa.QN Go.Proofs.YtmiepbnjocojhaaW.PrintWords Go.Proofs.YtmiepbnjocojhaaW.PrintLast

def names : List ByteArray := [(⟨#[43]⟩ : ByteArray), (⟨#[45]⟩ : ByteArray), (⟨#[42]⟩ : ByteArray), (⟨#[47]⟩ : ByteArray), (⟨#[37]⟩ : ByteArray), (⟨#[61, 61]⟩ : ByteArray), (⟨#[47, 61]⟩ : ByteArray), (⟨#[60]⟩ : ByteArray), (⟨#[60, 61]⟩ : ByteArray), (⟨#[62]⟩ : ByteArray), (⟨#[62, 61]⟩ : ByteArray)]
/-- The operator of a text, among the last d. -/
def sp (s : ByteArray) : Nat → Int
  | 0 => 0
  | d + 1 => if (rdOf ByteArray.empty names (10 - (d : Int))).toList = s.toList then 11 - (d : Int) else sp s d
theorem name_at : ∀ d : Nat, d < 11 → num_Name.f (11 - (d : Int)) = some (rdOf ByteArray.empty names (10 - (d : Int))) := by decide +kernel
theorem name_ne : ∀ d : Nat, d < 11 → (rdOf ByteArray.empty names (10 - (d : Int))).toList ≠ [] := by decide +kernel
theorem num_op_l0 (s : ByteArray) : ∀ (d k : Nat), d ≤ 11 → d < k → num_Op.l0 k s (12 - (d : Int)) = some (sp s d) := by
  intro d
  induction d with
  | zero =>
    intro k _ hk
    obtain ⟨k, rfl⟩ : ∃ m, k = m + 1 := ⟨k - 1, by omega⟩
    simp only [num_Op.l0]; rw [if_neg (by omega)]; rfl
  | succ d ih =>
    intro k hd hk
    obtain ⟨k, rfl⟩ : ∃ m, k = m + 1 := ⟨k - 1, by omega⟩
    have h := name_at d (by omega)
    have e : (12 : Int) - ((d + 1 : Nat) : Int) = 11 - (d : Int) := by omega
    have e2 : wrap64 (11 - (d : Int) + 1) = 12 - (d : Int) := by unfold wrap64; omega
    simp only [num_Op.l0]
    rw [e, if_pos (by omega), h, e2, ih k (by omega) (by omega)]
    simp only [Option.bind_some, sp]
    split <;> rfl
theorem ref_op_l0 (s : ByteArray) : ∀ (d k : Nat), d ≤ 11 → d < k → changelingref01_Op.l0 k s names (11 - (d : Int)) = some (sp s d) := by
  intro d
  induction d with
  | zero =>
    intro k _ hk
    obtain ⟨k, rfl⟩ : ∃ m, k = m + 1 := ⟨k - 1, by omega⟩
    simp only [changelingref01_Op.l0]; rw [if_neg (by simp [names])]; rfl
  | succ d ih =>
    intro k hd hk
    obtain ⟨k, rfl⟩ : ∃ m, k = m + 1 := ⟨k - 1, by omega⟩
    have hl : (names.length : Int) = 11 := rfl
    have e : (11 : Int) - ((d + 1 : Nat) : Int) = 10 - (d : Int) := by omega
    have e2 : wrap64 (10 - (d : Int) + 1) = 11 - (d : Int) := by unfold wrap64; omega
    simp only [changelingref01_Op.l0]
    rw [e, if_pos (by omega), if_pos (by omega), e2, ih k (by omega) (by omega)]
    simp only [sp]
    split <;> rfl
theorem sp_nil (s : ByteArray) (h : s.toList = []) : ∀ d, d ≤ 11 → sp s d = 0 := by
  intro d
  induction d with
  | zero => intro _; rfl
  | succ d ih =>
    intro hd
    simp only [sp]
    rw [if_neg (by rw [h]; exact name_ne d (by omega))]
    exact ih (by omega)
theorem num_op (s : ByteArray) (k : Nat) (hk : 100 ≤ k) : num_Op.f k s = some (sp s 11) := by
  unfold num_Op.f
  by_cases h : s.toList = []
  · rw [if_pos h, sp_nil s h 11 (by omega)]
  · rw [if_neg h]; exact num_op_l0 s 11 k (by omega) (by omega)
theorem ref_op (s : ByteArray) (k : Nat) (hk : 100 ≤ k) : changelingref01_Op.f k s = some (sp s 11) := by
  unfold changelingref01_Op.f changelingref01_Names.f
  exact ref_op_l0 s 11 k (by omega) (by omega)

theorem sp_range (s : ByteArray) : ∀ d : Nat, d ≤ 11 → sp s d = 0 ∨ (12 - (d : Int) ≤ sp s d ∧ sp s d ≤ 11)
  | 0, _ => Or.inl rfl
  | d + 1, h => by
    have ih := sp_range s d (by omega)
    simp only [sp]
    split
    · omega
    · omega
theorem sp_top (s : ByteArray) : sp s 11 = if s.toList = ([43] : List UInt8) then 1 else if s.toList = ([45] : List UInt8) then 2 else sp s 9 := by
  have e0 : (rdOf ByteArray.empty names (10 - ((10 : Nat) : Int))).toList = [43] := by decide +kernel
  have e1 : (rdOf ByteArray.empty names (10 - ((9 : Nat) : Int))).toList = [45] := by decide +kernel
  rw [sp, e0, sp, e1]
  by_cases h : s.toList = [43]
  · rw [if_pos h.symm, if_pos h]; rfl
  · rw [if_neg (fun x => h x.symm), if_neg h]
    by_cases h2 : s.toList = [45]
    · rw [if_pos h2.symm, if_pos h2]; rfl
    · rw [if_neg (fun x => h2 x.symm), if_neg h2]
/-- How an operator binds of which nothing is said. -/
theorem default_eq (s : ByteArray) (k : Nat) (hk : 200 ≤ k) : ∃ a b : Int, fix_Default.f k s = some (s, a, b, 0, 0) ∧ changelingref05_Default.f k s = some (s, a, b, 0, 0) := by
  obtain ⟨k, rfl⟩ : ∃ q, k = q + 3 := ⟨k - 3, by omega⟩
  unfold fix_Default.f changelingref05_Default.f
  rw [num_op s _ (by omega), ref_op s _ (by omega)]
  simp only [Option.bind_some, num_Rel.f]
  have hr := sp_range s 9 (by omega)
  rw [sp_top]
  by_cases h : s.toList = [43]
  · rw [if_pos h]
    exact ⟨1, 6, by simp [h], by simp [changelingref05_Default.j0, changelingref05_Default.j1, changelingref05_Default.j2]⟩
  · rw [if_neg h]
    by_cases h2 : s.toList = [45]
    · rw [if_pos h2]
      exact ⟨1, 6, by simp [h2], by simp [changelingref05_Default.j0, changelingref05_Default.j1, changelingref05_Default.j2]⟩
    · rw [if_neg h2]
      generalize sp s 9 = n at hr
      have hn1 : ¬ n = 1 := by omega
      have hn2 : (n == 2) = false := beq_eq_false_iff_ne.mpr (by omega)
      rw [if_neg hn1, hn2]
      simp only [changelingref05_Default.j0, changelingref05_Default.j1, changelingref05_Default.j2, Bool.false_eq_true, if_false, h, h2, or_self]
      by_cases c6 : n ≥ 6
      · exact ⟨0, 4, by simp [c6, show n ≤ 11 by omega], by simp [c6, show n ≥ 3 by omega, show ¬ n ≤ 5 by omega]⟩
      · by_cases c3 : n ≥ 3
        · exact ⟨1, 7, by simp [c6, show n > 0 by omega], by simp [c6, c3, show n ≤ 5 by omega]⟩
        · exact ⟨1, 9, by simp [c6, show ¬ n > 0 by omega], by simp [c6, c3]⟩
theorem find_eq (l : List S36) (hl : l.length ≤ 9223372036854775807) (s : ByteArray) : ∀ (m k : Nat) (x : Int), m + 300 < k → l.length - x ≤ m → 0 ≤ x →
    ∃ r, fix_Find.l0 k s l (l.length : Int) x = some r ∧ changelingref05_Find.l0 k l s x = some r
  | m, 0, x, h, _, _ => absurd h (by omega)
  | m, k + 1, x, h, hm, h0 => by
    simp only [fix_Find.l0, changelingref05_Find.l0]
    by_cases c : x < l.length
    · rw [if_pos c, if_pos h0, if_pos c, if_pos c, if_pos h0]
      by_cases e : ((rd_T36 l x).f0).toList = s.toList
      · rw [if_pos e, if_pos e]; exact ⟨_, rfl, rfl⟩
      · rw [if_neg e, if_neg e, w64_id (by omega) (by omega)]
        match m with
        | 0 => omega
        | m + 1 => exact find_eq l hl s m k (x + 1) (by omega) (by omega) (by omega)
    · rw [if_neg c, if_neg c]
      obtain ⟨a, b, e1, e2⟩ := default_eq s k (by omega)
      rw [e1, e2]
      exact ⟨_, rfl, rfl⟩
theorem FixFinds (l0 : List S36) (a1 : ByteArray) (hl : l0.length ≤ maxLen) (_ : ∀ x ∈ l0, (Lit.int .i64 x.f1).wf = true ∧ (Lit.int .i64 x.f2).wf = true) (_ : a1.size ≤ maxLen) : ∃ k, changelinglaw05_FixFinds.f k l0 a1 = some true := by
  refine ⟨l0.length + 1000, ?_⟩
  obtain ⟨a, b, e1, e2⟩ := default_eq a1 (l0.length + 1000) (by omega)
  obtain ⟨r, e3, e4⟩ := find_eq l0 (by unfold maxLen at hl; omega) a1 l0.length (l0.length + 1000) 0 (by omega) (by omega) (by omega)
  unfold changelinglaw05_FixFinds.f fix_Find.f changelingref05_Find.f
  rw [e1, e2, e3, e4]
  simp only [Option.bind_some]
  rw [if_pos (by simp), if_pos (by simp), known_at (by omega)]; rfl
end Go.Proofs.Ytmiepbnjocojhaa.Pure
