/- Operators have their texts, texts their operators, and those of one kind are told together, as the reference says; no condition. -/
import Derived.Test.YtahfiefjngchdaaQN6
import Derived.Test.YtahfiefjngchdaaPureBase
namespace Go.Proofs.Ytahfiefjngchdaa.Pure
open Go.RowKit Go.Proofs.Ytahfiefjngchdaa.QN Go.Proofs.YtahfiefjngchdaaW.PrintWords Go.Proofs.YtahfiefjngchdaaW.PrintLast

def names : List ByteArray := [(⟨#[43]⟩ : ByteArray), (⟨#[45]⟩ : ByteArray), (⟨#[42]⟩ : ByteArray), (⟨#[47]⟩ : ByteArray), (⟨#[37]⟩ : ByteArray), (⟨#[61, 61]⟩ : ByteArray), (⟨#[47, 61]⟩ : ByteArray), (⟨#[60]⟩ : ByteArray), (⟨#[60, 61]⟩ : ByteArray), (⟨#[62]⟩ : ByteArray), (⟨#[62, 61]⟩ : ByteArray)]
/-- The operator of a text, among the last d. -/
def sp (s : ByteArray) : Nat → Int
  | 0 => 0
  | d + 1 => if (rdOf ByteArray.empty names (10 - (d : Int))).toList = s.toList then 11 - (d : Int) else sp s d
theorem name_at : ∀ d : Nat, d < 11 → num_Name.f (11 - (d : Int)) = some (rdOf ByteArray.empty names (10 - (d : Int))) := by decide +kernel
theorem name_ne : ∀ d : Nat, d < 11 → (rdOf ByteArray.empty names (10 - (d : Int))).toList ≠ [] := by decide +kernel
theorem num_op_l0 (s : ByteArray) : ∀ (d k : Nat), d ≤ 11 → d < k → num_Op.l0 k s (12 - (d : Int)) = some (sp s d) := by
  intro d
  induction d with
  | zero =>
    intro k _ hk
    obtain ⟨k, rfl⟩ : ∃ m, k = m + 1 := ⟨k - 1, by omega⟩
    simp only [num_Op.l0]; rw [if_neg (by omega)]; rfl
  | succ d ih =>
    intro k hd hk
    obtain ⟨k, rfl⟩ : ∃ m, k = m + 1 := ⟨k - 1, by omega⟩
    have h := name_at d (by omega)
    have e : (12 : Int) - ((d + 1 : Nat) : Int) = 11 - (d : Int) := by omega
    have e2 : wrap64 (11 - (d : Int) + 1) = 12 - (d : Int) := by unfold wrap64; omega
    simp only [num_Op.l0]
    rw [e, if_pos (by omega), h, e2, ih k (by omega) (by omega)]
    simp only [Option.bind_some, sp]
    split <;> rfl
theorem ref_op_l0 (s : ByteArray) : ∀ (d k : Nat), d ≤ 11 → d < k → changelingref01_Op.l0 k s names (11 - (d : Int)) = some (sp s d) := by
  intro d
  induction d with
  | zero =>
    intro k _ hk
    obtain ⟨k, rfl⟩ : ∃ m, k = m + 1 := ⟨k - 1, by omega⟩
    simp only [changelingref01_Op.l0]; rw [if_neg (by simp [names])]; rfl
  | succ d ih =>
    intro k hd hk
    obtain ⟨k, rfl⟩ : ∃ m, k = m + 1 := ⟨k - 1, by omega⟩
    have hl : (names.length : Int) = 11 := rfl
    have e : (11 : Int) - ((d + 1 : Nat) : Int) = 10 - (d : Int) := by omega
    have e2 : wrap64 (10 - (d : Int) + 1) = 11 - (d : Int) := by unfold wrap64; omega
    simp only [changelingref01_Op.l0]
    rw [e, if_pos (by omega), if_pos (by omega), e2, ih k (by omega) (by omega)]
    simp only [sp]
    split <;> rfl
theorem sp_nil (s : ByteArray) (h : s.toList = []) : ∀ d, d ≤ 11 → sp s d = 0 := by
  intro d
  induction d with
  | zero => intro _; rfl
  | succ d ih =>
    intro hd
    simp only [sp]
    rw [if_neg (by rw [h]; exact name_ne d (by omega))]
    exact ih (by omega)
theorem num_op (s : ByteArray) : num_Op.f 100 s = some (sp s 11) := by
  unfold num_Op.f
  by_cases h : s.toList = []
  · rw [if_pos h, sp_nil s h 11 (by omega)]
  · rw [if_neg h]; exact num_op_l0 s 11 100 (by omega) (by omega)
theorem ref_op (s : ByteArray) : changelingref01_Op.f 100 s = some (sp s 11) := by
  unfold changelingref01_Op.f changelingref01_Names.f
  exact ref_op_l0 s 11 100 (by omega) (by omega)

/-- One operator's side, computed. -/
def side (a : Int) : Option Bool := (num_Name.f a).bind fun x => (changelingref01_Name.f a).bind fun y => if x.toList = y.toList then some true else some false
def side2 (a : Int) : Option Bool := (num_Others.f 100 a).bind fun x => (changelingref01_Others.f 100 a).bind fun y => changelingref01_SameInts.f 100 x y
theorem sides : ∀ d : Nat, d < 11 → side (1 + (d : Int)) = some true ∧ side2 (1 + (d : Int)) = some true := by decide +kernel
theorem name_out {a : Int} (h : ¬ (1 ≤ a ∧ a ≤ 11)) : num_Name.f a = some ⟨#[]⟩ := by
  unfold num_Name.f
  repeat (rw [if_neg (by omega)])
theorem side_out {a : Int} (h : ¬ (1 ≤ a ∧ a ≤ 11)) : side a = some true ∧ side2 a = some true := by
  have hr : changelingref01_Right.f a = some false := by
    unfold changelingref01_Right.f
    split
    · congr 1; simp; omega
    · rfl
  have hn := name_out h
  have e0 : (⟨#[]⟩ : ByteArray).toList = [] := by decide +kernel
  constructor
  · unfold side changelingref01_Name.f
    rw [hn, hr]; simp
  · unfold side2
    have h1 : num_Others.f 100 a = some [] := by unfold num_Others.f; rw [hn]; simp [e0]
    have h2 : changelingref01_Others.f 100 a = some [] := by
      unfold changelingref01_Others.f
      split
      · simp only [changelingref01_Others.j0, changelingref01_Others.l0]
        rw [hr]
        simp [changelingref01_Others.j2]
      · simp only [changelingref01_Others.j0, changelingref01_Others.l0]
        rw [hr]
        simp [changelingref01_Others.j2]
    rw [h1, h2]
    decide +kernel
theorem side_all (a : Int) : side a = some true ∧ side2 a = some true := by
  by_cases h : 1 ≤ a ∧ a ≤ 11
  · have := sides (a - 1).toNat (by omega)
    rwa [show (1 : Int) + ((a - 1).toNat : Int) = a by omega] at this
  · exact side_out h

/-- YOURS: a number and a text: the law answers true. -/
theorem NumNames : changelinglaw01_NumNames.Pure := by
  intro a s _ _
  refine ⟨100, ?_⟩
  obtain ⟨h1, h2⟩ := side_all a
  unfold side at h1
  unfold side2 at h2
  obtain ⟨x, hx, h1⟩ := Option.bind_eq_some_iff.1 h1
  obtain ⟨y, hy, h1⟩ := Option.bind_eq_some_iff.1 h1
  obtain ⟨u, hu, h2⟩ := Option.bind_eq_some_iff.1 h2
  obtain ⟨v, hv, h2⟩ := Option.bind_eq_some_iff.1 h2
  have hxy : x.toList = y.toList := by
    by_cases h : x.toList = y.toList
    · exact h
    · rw [if_neg h] at h1; simp at h1
  unfold changelinglaw01_NumNames.f
  rw [hx, hy, num_op, ref_op]
  simp only [Option.bind_some]
  rw [if_pos hxy, if_true]
  have hr : num_Rel.f a = some (if a ≥ 6 then decide (a ≤ 11) else false) := by
    unfold num_Rel.f; split <;> rfl
  rw [hr, hu, hv]
  simp only [Option.bind_some, h2, known_ok]
  by_cases h : a ≥ 6
  · simp [h]
  · simp [h]

end Go.Proofs.Ytahfiefjngchdaa.Pure
