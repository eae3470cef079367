/- The plain law of StatAll: the score of what Count gives. -/
import Derived.Test.YtcmknnhhbcgoiaaPureCnt
import Derived.Test.YtcmknnhhbcgoiaaQN10
namespace Go.Proofs.Ytcmknnhhbcgoiaa.Pure
open Go.RowKit Go.Proofs.Ytcmknnhhbcgoiaa.QN Go.Proofs.YtcmknnhhbcgoiaaW.PrintWords Go.Proofs.YtcmknnhhbcgoiaaW.PrintLast
set_option linter.unusedVariables false
set_option linter.unusedSimpArgs false
def vK (v : List SV) : Nat := v.countP (fun x => decide (x.f1 = 1))
theorem kN_zip : ∀ (l : List S67) (v : List SV), l.length = v.length → kN (zipP l v) 1 = vK v
  | [], [], _ => rfl
  | [], x :: v, h => by simp at h
  | m :: l, [], h => by simp at h
  | m :: l, x :: v, h => by
    have ih := kN_zip l v (by simpa using h)
    unfold kN vK zipP at ih ⊢
    simp only [List.zipWith_cons_cons, List.countP_cons, ih]
theorem vK_take (v : List SV) (m : Nat) (h : m < v.length) : vK (v.take (m + 1)) = vK (v.take m) + if (rd_TV v (m : Int)).f1 = 1 then 1 else 0 := by
  have e : rd_TV v (m : Int) = v[m] := by simp [rd_TV, h]
  rw [e, ← List.take_append_getElem h]
  unfold vK
  rw [List.countP_append]
  by_cases h1 : v[m].f1 = 1
  · rw [if_pos h1, List.countP_cons_of_pos (by simpa using h1)]; rfl
  · rw [if_neg h1, List.countP_cons_of_neg (by simpa using h1)]; rfl
theorem score_tab (l : List S67) (v : List SV) (hl : l.length ≤ 2000) (t : List S42) (h : CountF l v = some t) : l.length = v.length ∧ stat_Score.f 3000 t = some ((vK v : Int), (l.length : Int)) := by
  obtain ⟨h1, rfl, ok⟩ := count_tab l v hl t h
  have hz := zipP_len l v h1
  refine ⟨h1, ?_⟩
  have hlen := tabP_len (zipP l v)
  unfold stat_Score.f
  rw [sum_f _ (by omega) _ (by omega), if_pos (tabP_right _ (by omega) ok)]
  simp only [Option.bind_some, stat_total.f]
  have ht := tot_tab (zipP l v) (by omega) ok
  unfold totR at ht
  rw [ht, hz, sum_tab _ (by omega) ok, kN_zip l v h1]
end Go.Proofs.Ytcmknnhhbcgoiaa.Pure
