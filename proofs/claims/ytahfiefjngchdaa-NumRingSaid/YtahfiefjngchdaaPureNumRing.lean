/- Sums, differences and products go together as in a ring of the numbers of 64 bits; no condition. -/
import Derived.Test.YtahfiefjngchdaaQN4
import Derived.Test.YtahfiefjngchdaaPureBase
namespace Go.Proofs.Ytahfiefjngchdaa.Pure
open Go.RowKit Go.Proofs.Ytahfiefjngchdaa.QN Go.Proofs.YtahfiefjngchdaaW.PrintWords Go.Proofs.YtahfiefjngchdaaW.PrintLast

theorem spec_add (a b : Int) : doSpec 1 a b = (wrap64 (a + b), 0) := by simp [doSpec]
theorem spec_sub (a b : Int) : doSpec 2 a b = (wrap64 (a - b), 0) := by simp [doSpec]
theorem spec_mul (a b : Int) : doSpec 3 a b = (wrap64 (a * b), 0) := by simp [doSpec]

/-- YOURS: three numbers, each of its kind: the law answers true. -/
theorem NumRing : changelinglaw01_NumRing.Pure := by
  intro a b c ha _ _
  refine ⟨100, ?_⟩
  have e1 : wrap64 (wrap64 (a - b) + b) = a := by
    have := wf64 ha
    obtain ⟨s, hs⟩ := w64_ex (a - b)
    rw [hs, w64_congr (y := a) (s := s) (by omega), w64_id (by omega) (by omega)]
  have e2 : wrap64 (a * wrap64 (b + c)) = wrap64 (wrap64 (a * b) + wrap64 (a * c)) := by
    obtain ⟨s, hs⟩ := w64_ex (b + c)
    obtain ⟨t, ht⟩ := w64_ex (a * b)
    obtain ⟨u, hu⟩ := w64_ex (a * c)
    rw [hs, ht, hu]
    refine w64_congr (s := a * s - t - u) ?_
    grind
  unfold changelinglaw01_NumRing.f
  simp only [does_f _ _ _ (show 0 < 100 by omega), spec_add, spec_sub, spec_mul, Option.bind_some, e1, e2, known_ok, Int.mul_comm b a]
  simp

end Go.Proofs.Ytahfiefjngchdaa.Pure
