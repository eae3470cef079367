/- The plain statement of FixTight: what lies within an operator's operands binds more tightly; no condition. -/
import Derived.Test.YtmiepbnjocojhaaQN7
import Derived.Test.YtmiepbnjocojhaaPureFixShape
namespace Go.Proofs.Ytmiepbnjocojhaa.Pure
open Go.RowKit Go.Proofs.Ytmiepbnjocojhaa.QN Go.Proofs.YtmiepbnjocojhaaW.PrintWords Go.Proofs.YtmiepbnjocojhaaW.PrintLast
theorem Tight_j3 {l : List S36} {os : List S32} {k : Nat} {i x : Int} (h0 : 0 ≤ x) (h1 : x < l.length) (hi0 : 0 ≤ i) (hi1 : i < l.length) (hx : x = i ∨ (x < i ∧ notL (lv l) (sd l) x i) ∨ (i < x ∧ notR (lv l) (sd l) x i)) :
    changelinglaw05_FixTight.j3 (k + 1) l os i x false = changelinglaw05_FixTight.l1 k l os i (wrap64 (x + 1)) := by
  simp only [changelinglaw05_FixTight.j3]
  rw [if_neg (by simp), if_pos h0, if_pos h1, if_pos hi0, if_pos hi1]
  simp only [notL, notR, lv, sd] at hx
  repeat' split
  all_goals first
    | rfl
    | (exfalso; omega)
theorem Tight_l1 {l : List S36} {os : List S32} (h : Fine l os) (i a b : Int) (K : Nat) (e : rd_T32 os i = ⟨a, b⟩) (s : Sp (lv l) (sd l) 0 l.length i a b) (hi : 0 ≤ i) (hil : i < l.length) (hK : ∀ k, K < k → changelinglaw05_FixTight.l0 k l os (wrap64 (i + 1)) = some true) :
    ∀ (q k : Nat) (x : Int), K + 2 * q < k → b - x < q → a ≤ x → x ≤ b → changelinglaw05_FixTight.l1 k l os i x = some true := by
  intro q
  induction q with
  | zero => intro k x _ _ _ _; omega
  | succ q ih =>
    intro k x hk hq hx0 hx1
    obtain ⟨k, rfl⟩ : ∃ k', k = k' + 2 := ⟨k - 2, by omega⟩
    have hl := h.hl
    have hn := h.hn
    have := s.la; have := s.ai; have := s.ib; have := s.bh
    rw [changelinglaw05_FixTight.l1]
    rw [if_pos hi, if_pos (by omega), e]
    simp only
    by_cases c : x < b
    · rw [if_pos c, if_neg (by omega), decide_eq_false (by omega)]
      rw [Tight_j3 (by omega) (by omega) hi (by omega) (by
        rcases Int.lt_trichotomy x i with t | t | t
        · exact Or.inr (Or.inl ⟨t, s.nl x hx0 t⟩)
        · exact Or.inl t
        · exact Or.inr (Or.inr ⟨t, s.nr x t c⟩)), w64_id (by omega) (by omega)]
      exact ih k (x + 1) (by omega) (by omega) (by omega) (by omega)
    · rw [if_neg c]
      exact hK (k + 1) (by omega)
theorem Tight_l0 {l : List S36} {os : List S32} (h : Fine l os) : ∀ (m k : Nat) (i : Int), m * 2100 + 3000 < k → os.length - i ≤ m → 0 ≤ i → changelinglaw05_FixTight.l0 k l os i = some true := by
  intro m
  induction m with
  | zero =>
    intro k i hk hm hi
    obtain ⟨k, rfl⟩ : ∃ k', k = k' + 1 := ⟨k - 1, by omega⟩
    rw [changelinglaw05_FixTight.l0]
    rw [if_neg (by omega), known_at (by omega)]; rfl
  | succ m ih =>
    intro k i hk hm hi
    have hl := h.hl
    have hn := h.hn
    obtain ⟨k, rfl⟩ : ∃ k', k = k' + 1 := ⟨k - 1, by omega⟩
    rw [changelinglaw05_FixTight.l0]
    by_cases c : i < os.length
    · obtain ⟨a, b, e, s⟩ := h.hs i hi (by omega)
      have := s.la; have := s.ai; have := s.ib; have := s.bh
      rw [if_pos c, if_pos hi, e]
      simp only
      refine Tight_l1 h i a b (m * 2100 + 3000) e s hi (by omega) (fun k' hk' => ?_) 1025 k a (by omega) (by omega) (by omega) (by omega)
      rw [w64_id (by omega) (by omega)]
      exact ih k' (i + 1) hk' (by omega) (by omega)
    · rw [if_neg c, known_at (by omega)]; rfl
theorem FixTight (l0 : List S36) (_ : l0.length ≤ maxLen) (_ : ∀ x ∈ l0, (Lit.int .i64 x.f1).wf = true ∧ (Lit.int .i64 x.f2).wf = true) : ∃ k, changelinglaw05_FixTight.f k l0 = some true := by
  refine ⟨4000000, ?_⟩
  obtain ⟨r, e, h⟩ := resolve_out l0
  unfold changelinglaw05_FixTight.f
  rw [e]; simp only [Option.bind_some]
  generalize hk : (4000000 : Nat) = K
  obtain ⟨k, rfl⟩ : ∃ k, K = k + 1 := ⟨K - 1, by omega⟩
  rcases h.cases_ with ⟨h1, h2⟩ | ⟨_, h2, hF⟩
  · rw [if_neg h2]
    simp only [changelinglaw05_FixTight.j0, if_true]
    rw [known_at (by omega)]; rfl
  · rw [if_pos h2]
    simp only [changelinglaw05_FixTight.j0]
    by_cases c : (l0.length : Int) > 300
    · rw [if_pos (decide_eq_true c), known_at (by omega)]; rfl
    · rw [if_neg (by simpa using c), if_pos hF.hl]
      exact Tight_l0 hF 1024 k 0 (by omega) (by have := hF.hl; have := hF.hn; omega) (by omega)
end Go.Proofs.Ytmiepbnjocojhaa.Pure
