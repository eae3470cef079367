/- An operator's place in its kind is one of all others' others; no condition. -/
import Derived.Test.YtahfiefjngchdaaQN7
import Derived.Test.YtahfiefjngchdaaPureBase
namespace Go.Proofs.Ytahfiefjngchdaa.Pure
open Go.RowKit Go.Proofs.Ytahfiefjngchdaa.QN Go.Proofs.YtahfiefjngchdaaW.PrintWords Go.Proofs.YtahfiefjngchdaaW.PrintLast

theorem turns : ∀ d : Nat, d < 11 → changelinglaw01_NumTurns.f 100 (1 + (d : Int)) = some true := by decide +kernel
/-- YOURS: a number: the law answers true. -/
theorem NumTurns : changelinglaw01_NumTurns.Pure := by
  intro a _
  refine ⟨100, ?_⟩
  by_cases h : 1 ≤ a ∧ a ≤ 11
  · have := turns (a - 1).toNat (by omega)
    rwa [show (1 : Int) + ((a - 1).toNat : Int) = a by omega] at this
  · have hn : num_Name.f a = some ⟨#[]⟩ := by
      unfold num_Name.f
      repeat (rw [if_neg (by omega)])
    have e0 : (⟨#[]⟩ : ByteArray).toList = [] := by decide +kernel
    have h1 : num_Others.f 100 a = some [] := by unfold num_Others.f; rw [hn]; simp [e0]
    have hk := known_ok
    unfold changelinglaw01_NumTurns.f
    rw [h1]
    simp only [Option.bind_some]
    have hk99 : changelinglaw01_known.f 99 = some true := by decide +kernel
    have hl : ∀ k, changelinglaw01_known.f k = some true → changelinglaw01_NumTurns.l0 (k + 1) a [] 0 = some true := by
      intro k hk
      simp only [changelinglaw01_NumTurns.l0]
      rw [if_neg (by simp), hn, hk]
      simp [e0]
    exact hl 99 hk99

end Go.Proofs.Ytahfiefjngchdaa.Pure
