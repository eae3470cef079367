/- The plain statement of FixResolves: the program and the document group any row alike; no condition. -/
import Derived.Test.YtmiepbnjocojhaaQN5
import Derived.Test.YtmiepbnjocojhaaPureRef
namespace Go.Proofs.Ytmiepbnjocojhaa.Pure
open Go.RowKit Go.Proofs.Ytmiepbnjocojhaa.QN Go.Proofs.YtmiepbnjocojhaaW.PrintWords Go.Proofs.YtmiepbnjocojhaaW.PrintLast
theorem known_at {k : Nat} (hk : 100 ≤ k) : changelinglaw05_known.f k = some true := by
  obtain ⟨n, rfl⟩ := Nat.le.dest hk
  exact changelinglaw05_known.le 100 n true changelinglaw05_known.at_
theorem Out.short {l : List S36} {r : List S32 × Int × Int} (h : Out l r) : r.1.length ≤ 1024 := by
  cases h with
  | long _ => simp
  | bad _ _ _ _ _ _ => simp
  | clash _ _ _ _ _ _ _ => simp
  | fine os a _ _ hl _ => simp only; omega
theorem FixResolves (l0 : List S36) (_ : l0.length ≤ maxLen) (_ : ∀ x ∈ l0, (Lit.int .i64 x.f1).wf = true ∧ (Lit.int .i64 x.f2).wf = true) : ∃ k, changelinglaw05_FixResolves.f k l0 = some true := by
  refine ⟨10000, ?_⟩
  obtain ⟨r, e, h⟩ := resolve_out l0
  obtain ⟨r', e', h'⟩ := ref_out l0 10000 (by omega)
  have := h.uniq h'
  subst this
  unfold changelinglaw05_FixResolves.f
  rw [e]; simp only [Option.bind_some]
  rw [e']; simp only [Option.bind_some]
  rw [same_f r.1 h.short 10000 (by omega)]; simp only [Option.bind_some, if_true]
  rw [known_at (by omega)]; rfl
end Go.Proofs.Ytmiepbnjocojhaa.Pure
