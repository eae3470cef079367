/- Of two numbers one is less or they are equal, and all relations say so alike; no condition. -/
import Derived.Test.YtahfiefjngchdaaQZ4
namespace Go.Proofs.Ytahfiefjngchdaa.Pure
open Go.RowKit Go.Proofs.Ytahfiefjngchdaa.QZ Go.Proofs.YtahfiefjngchdaaW.PrintWords Go.Proofs.YtahfiefjngchdaaW.PrintLast

theorem zknown_ok : changelinglaw01_known.f 90 = some true := by decide +kernel
theorem zknown_at : ∀ j, changelinglaw01_known.f (90 + j) = some true
  | 0 => zknown_ok
  | j + 1 => changelinglaw01_known.mono (90 + j) _ (zknown_at j)
def tru (p : Prop) [Decidable p] : Int := if p then 1 else 0
theorem zdoes6 (a b : Int) (k : Nat) : changelinglaw01_does.f (k + 1) 6 a b = some (tru (a = b), true) := by
  by_cases hb : a = b <;> simp [changelinglaw01_does.f, num_Do.f, num_Do.j0, num_Rel.f, num_holds.f, num_truth.f, tru, hb]
theorem zdoes7 (a b : Int) (k : Nat) : changelinglaw01_does.f (k + 1) 7 a b = some (tru (a ≠ b), true) := by
  by_cases hb : a = b <;> simp [changelinglaw01_does.f, num_Do.f, num_Do.j0, num_Rel.f, num_holds.f, num_truth.f, tru, hb]
theorem zdoes8 (a b : Int) (k : Nat) : changelinglaw01_does.f (k + 1) 8 a b = some (tru (a < b), true) := by
  by_cases hb : a < b <;> simp [changelinglaw01_does.f, num_Do.f, num_Do.j0, num_Rel.f, num_holds.f, num_truth.f, tru, hb]
theorem zdoes9 (a b : Int) (k : Nat) : changelinglaw01_does.f (k + 1) 9 a b = some (tru (a ≤ b), true) := by
  by_cases hb : a ≤ b <;> simp [changelinglaw01_does.f, num_Do.f, num_Do.j0, num_Rel.f, num_holds.f, num_truth.f, tru, hb]
theorem zdoes10 (a b : Int) (k : Nat) : changelinglaw01_does.f (k + 1) 10 a b = some (tru (b < a), true) := by
  by_cases hb : b < a <;> simp [changelinglaw01_does.f, num_Do.f, num_Do.j0, num_Rel.f, num_holds.f, num_truth.f, tru, hb]
theorem zdoes11 (a b : Int) (k : Nat) : changelinglaw01_does.f (k + 1) 11 a b = some (tru (b ≤ a), true) := by
  by_cases hb : b ≤ a <;> simp [changelinglaw01_does.f, num_Do.f, num_Do.j0, num_Rel.f, num_holds.f, num_truth.f, tru, hb]
theorem tru01 (p : Prop) [Decidable p] : 0 ≤ tru p ∧ tru p ≤ 1 := by unfold tru; split <;> omega

theorem round (a b : Int) (k n : Nat) (x5 x6 : List Int) (u v : Int) (hn : n < 6) (h5 : x5.length = 6) (h6 : x6.length = 6)
    (hu : changelinglaw01_does.f k (6 + n) a b = some (u, true)) (hv : changelinglaw01_does.f k (6 + n) b a = some (v, true)) (h01 : 0 ≤ u ∧ u ≤ 1) :
    changelinglaw01_NumOrders.l0 (k + 1) a b x5 x6 (n : Int) = changelinglaw01_NumOrders.l0 k a b (x5.set n u) (x6.set n v) ((n + 1 : Nat) : Int) := by
  simp only [changelinglaw01_NumOrders.l0]
  have e1 : wrap64 (6 + (n : Int)) = 6 + n := by unfold wrap64; omega
  have e2 : wrap64 ((n : Int) + 1) = ((n + 1 : Nat) : Int) := by unfold wrap64; omega
  rw [if_pos (by omega), e1, hu, hv]
  simp only [Option.bind_some, if_true]
  rw [if_neg (by omega), if_neg (by omega), if_pos (by omega), if_pos (by omega), if_pos (by omega), e2, Int.toNat_natCast]

theorem last (a b : Int) (k : Nat) (hk : changelinglaw01_known.f k = some true) : changelinglaw01_NumOrders.l0 (k + 1) a b [tru (a = b), tru (a ≠ b), tru (a < b), tru (a ≤ b), tru (b < a), tru (b ≤ a)]
    [tru (b = a), tru (b ≠ a), tru (b < a), tru (b ≤ a), tru (a < b), tru (a ≤ b)] 6 = some true := by
  simp only [changelinglaw01_NumOrders.l0]
  rw [if_neg (by omega), hk]
  rcases Int.lt_trichotomy a b with h | h | h
  · simp [rd, tru, wrap64, show ¬ a = b by omega, show ¬ b = a by omega, h, show ¬ b < a by omega, show a ≤ b by omega, show ¬ b ≤ a by omega]
  · subst h
    simp [rd, tru, wrap64]
  · simp [rd, tru, wrap64, show ¬ a = b by omega, show ¬ b = a by omega, h, show ¬ a < b by omega, show b ≤ a by omega, show ¬ a ≤ b by omega]

/-- YOURS: two numbers, each of its kind: the law answers true. -/
theorem NumOrders : changelinglaw01_NumOrders.Pure := by
  intro a b _ _
  refine ⟨100, ?_⟩
  unfold changelinglaw01_NumOrders.f
  have r0 := round a b 99 0 [0, 0, 0, 0, 0, 0] [0, 0, 0, 0, 0, 0] _ _ (by omega) rfl rfl (zdoes6 a b 98) (zdoes6 b a 98) (tru01 _)
  have r1 := round a b 98 1 [tru (a = b), 0, 0, 0, 0, 0] [tru (b = a), 0, 0, 0, 0, 0] _ _ (by omega) rfl rfl (zdoes7 a b 97) (zdoes7 b a 97) (tru01 _)
  have r2 := round a b 97 2 [tru (a = b), tru (a ≠ b), 0, 0, 0, 0] [tru (b = a), tru (b ≠ a), 0, 0, 0, 0] _ _ (by omega) rfl rfl (zdoes8 a b 96) (zdoes8 b a 96) (tru01 _)
  have r3 := round a b 96 3 [tru (a = b), tru (a ≠ b), tru (a < b), 0, 0, 0] [tru (b = a), tru (b ≠ a), tru (b < a), 0, 0, 0] _ _ (by omega) rfl rfl (zdoes9 a b 95) (zdoes9 b a 95) (tru01 _)
  have r4 := round a b 95 4 [tru (a = b), tru (a ≠ b), tru (a < b), tru (a ≤ b), 0, 0] [tru (b = a), tru (b ≠ a), tru (b < a), tru (b ≤ a), 0, 0] _ _ (by omega) rfl rfl (zdoes10 a b 94) (zdoes10 b a 94) (tru01 _)
  have r5 := round a b 94 5 [tru (a = b), tru (a ≠ b), tru (a < b), tru (a ≤ b), tru (b < a), 0] [tru (b = a), tru (b ≠ a), tru (b < a), tru (b ≤ a), tru (a < b), 0] _ _ (by omega) rfl rfl (zdoes11 a b 93) (zdoes11 b a 93) (tru01 _)
  refine Eq.trans r0 (Eq.trans r1 (Eq.trans r2 (Eq.trans r3 (Eq.trans r4 (Eq.trans r5 ?_)))))
  exact last a b 93 (zknown_at 3)

end Go.Proofs.Ytahfiefjngchdaa.Pure
