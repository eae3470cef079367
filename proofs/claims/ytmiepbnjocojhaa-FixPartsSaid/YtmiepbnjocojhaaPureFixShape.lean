/- The plain statement of FixShape: parts within parts; no condition. -/
import Derived.Test.YtmiepbnjocojhaaQN6
import Derived.Test.YtmiepbnjocojhaaPureFixResolves
namespace Go.Proofs.Ytmiepbnjocojhaa.Pure
open Go.RowKit Go.Proofs.Ytmiepbnjocojhaa.QN Go.Proofs.YtmiepbnjocojhaaW.PrintWords Go.Proofs.YtmiepbnjocojhaaW.PrintLast
theorem Sp.inLeft {v s : Int → Int} {n i a b r : Int} (h : Sp v s 0 n i a b) (R : Root v s a i r) : Sp v s 0 n r a i := by
  have hn := h.nl r R.la R.ah
  refine ⟨h.la, R.la, R.ah, by have := h.ib; have := h.bh; omega, R.nl, ?_, R.nr, Or.inr (by unfold notL at hn; unfold outR; omega)⟩
  rcases h.ol with e | e
  · exact Or.inl e
  · right; unfold notL at hn; unfold outL at *; omega
theorem Sp.inRight {v s : Int → Int} {n i a b r : Int} (h : Sp v s 0 n i a b) (R : Root v s (i + 1) b r) : Sp v s 0 n r (i + 1) b := by
  have hn := h.nr r (by have := R.la; omega) R.ah
  have hla := h.la
  have hai := h.ai
  refine ⟨by omega, R.la, R.ah, h.bh, R.nl, Or.inr (by rw [show i + 1 - 1 = i by omega]; unfold notR at hn; unfold outL; omega), R.nr, ?_⟩
  rcases h.or_ with e | e
  · exact Or.inl e
  · right; unfold notR at hn; unfold outR at *; omega
theorem part_l0 (os : List S32) (hl : os.length ≤ 1024) (a b i : Int) (h0 : 0 ≤ i) (h1 : i < os.length) (he : rd_T32 os i = ⟨a, b⟩) : ∀ (m k : Nat) (x : Int), m < k → os.length - x ≤ m → 0 ≤ x → x ≤ i → changelinglaw05_part.l0 k os a b x = some true
  | m, 0, x, h, _, _, _ => absurd h (by omega)
  | m, k + 1, x, h, hm, hx, hxi => by
    simp only [changelinglaw05_part.l0]
    rw [if_pos (by omega), if_pos hx, w64_id (by omega) (by omega)]
    match m with
    | 0 => omega
    | m + 1 =>
      by_cases e : x = i
      · subst e; rw [he, if_pos rfl, if_pos rfl]
      · have := part_l0 os hl a b i h0 h1 he m k (x + 1) (by omega) (by omega) (by omega) (by omega)
        rw [this]; simp
theorem part_f {os : List S32} (hl : os.length ≤ 1024) {a b : Int} (h : a = b ∨ ∃ i, 0 ≤ i ∧ i < (os.length : Int) ∧ rd_T32 os i = ⟨a, b⟩) {k : Nat} (hk : 2000 ≤ k) : changelinglaw05_part.f k os a b = some true := by
  unfold changelinglaw05_part.f
  rcases h with h | ⟨i, h0, h1, he⟩
  · rw [if_pos h]
  · by_cases c : a = b
    · rw [if_pos c]
    · rw [if_neg c]; exact part_l0 os hl a b i h0 h1 he 1024 k 0 (by omega) (by omega) (by omega) h0
/-- The spans of a row that nothing clashes in. -/
structure Fine (l : List S36) (os : List S32) : Prop where
  hn : l.length ≤ 1024
  hr : ∀ j : Int, 0 ≤ j → j < l.length → rightR (rd_T36 l j)
  hc : ∀ j : Int, 0 ≤ j → j < l.length → ¬ Clash (lv l) (sd l) j
  hl : (os.length : Int) = l.length
  hs : ∀ i : Int, 0 ≤ i → i < l.length → ∃ a b, rd_T32 os i = ⟨a, b⟩ ∧ Sp (lv l) (sd l) 0 l.length i a b
theorem Fine.root {l : List S36} {os : List S32} (h : Fine l os) {lo hi : Int} (h0 : 0 ≤ lo) (h1 : lo < hi) (h2 : hi ≤ l.length) : ∃ r, Root (lv l) (sd l) lo hi r := by
  obtain ⟨r, _, R⟩ := root_f l h.hn h.hc lo hi h0 h2 h1 2000 (by omega)
  exact ⟨r, R⟩
theorem Fine.at_ {l : List S36} {os : List S32} (h : Fine l os) {i a b : Int} (hs : Sp (lv l) (sd l) 0 l.length i a b) : rd_T32 os i = ⟨a, b⟩ := by
  have := hs.la; have := hs.ai; have := hs.ib; have := hs.bh
  obtain ⟨x, y, e, s⟩ := h.hs i (by omega) (by omega)
  obtain ⟨rfl, rfl⟩ := s.uniq hs
  exact e
theorem Fine.whole {l : List S36} {os : List S32} (h : Fine l os) : (0 : Int) = l.length ∨ ∃ i, 0 ≤ i ∧ i < (os.length : Int) ∧ rd_T32 os i = ⟨0, l.length⟩ := by
  by_cases c : (0 : Int) = l.length
  · exact Or.inl c
  · obtain ⟨r, R⟩ := h.root (lo := 0) (hi := l.length) (by omega) (by omega) (by omega)
    exact Or.inr ⟨r, R.la, by have := R.ah; have := h.hl; omega, h.at_ (Sp.root R)⟩
theorem Fine.left {l : List S36} {os : List S32} (h : Fine l os) {i a b : Int} (hs : Sp (lv l) (sd l) 0 l.length i a b) : a = i ∨ ∃ j, 0 ≤ j ∧ j < (os.length : Int) ∧ rd_T32 os j = ⟨a, i⟩ := by
  have := hs.la; have := hs.ai; have := hs.ib; have := hs.bh; have := h.hl
  by_cases c : a = i
  · exact Or.inl c
  · obtain ⟨r, R⟩ := h.root (lo := a) (hi := i) (by omega) (by omega) (by omega)
    exact Or.inr ⟨r, by have := R.la; omega, by have := R.ah; omega, h.at_ (hs.inLeft R)⟩
theorem Fine.right {l : List S36} {os : List S32} (h : Fine l os) {i a b : Int} (hs : Sp (lv l) (sd l) 0 l.length i a b) : i + 1 = b ∨ ∃ j, 0 ≤ j ∧ j < (os.length : Int) ∧ rd_T32 os j = ⟨i + 1, b⟩ := by
  have := hs.la; have := hs.ai; have := hs.ib; have := hs.bh; have := h.hl
  by_cases c : i + 1 = b
  · exact Or.inl c
  · obtain ⟨r, R⟩ := h.root (lo := i + 1) (hi := b) (by omega) (by omega) (by omega)
    exact Or.inr ⟨r, by have := R.la; omega, by have := R.ah; omega, h.at_ (hs.inRight R)⟩
theorem Shape_l0 {l : List S36} {os : List S32} (h : Fine l os) : ∀ (m k : Nat) (x : Int), m + 3000 < k → os.length - x ≤ m → 0 ≤ x → changelinglaw05_FixShape.l0 k l os x = some true
  | m, 0, x, hk, _, _ => absurd hk (by omega)
  | m, k + 1, x, hk, hm, hx => by
    have hl := h.hl
    have hn := h.hn
    simp only [changelinglaw05_FixShape.l0]
    by_cases c : x < os.length
    · obtain ⟨a, b, e, s⟩ := h.hs x hx (by omega)
      have := s.la; have := s.ai; have := s.ib; have := s.bh
      rw [if_pos c, if_pos hx, e]
      simp only
      rw [if_neg (by omega), if_neg (by omega), if_neg (by omega), if_neg (by omega), part_f (by omega) (h.left s) (by omega)]
      simp only [Option.bind_some, if_true]
      rw [w64_id (by omega) (by omega), part_f (by omega) (h.right s) (by omega)]
      simp only [Option.bind_some, if_true]
      match m with
      | 0 => omega
      | m + 1 => exact Shape_l0 h m k (x + 1) (by omega) (by omega) (by omega)
    · rw [if_neg c, known_at (by omega)]; rfl
theorem Out.cases_ {l : List S36} {r : List S32 × Int × Int} (h : Out l r) : (r.1 = [] ∧ r.2.2 ≠ 0) ∨ (r.2.1 = 0 ∧ r.2.2 = 0 ∧ Fine l r.1) := by
  cases h with
  | long _ => left; simp
  | bad _ _ _ _ _ _ => left; simp
  | clash _ _ _ _ _ _ _ => left; simp
  | fine os a b c d e => right; exact ⟨rfl, rfl, a, b, c, d, e⟩
theorem FixShape (l0 : List S36) (_ : l0.length ≤ maxLen) (_ : ∀ x ∈ l0, (Lit.int .i64 x.f1).wf = true ∧ (Lit.int .i64 x.f2).wf = true) : ∃ k, changelinglaw05_FixShape.f k l0 = some true := by
  refine ⟨10000, ?_⟩
  obtain ⟨r, e, h⟩ := resolve_out l0
  unfold changelinglaw05_FixShape.f
  rw [e]; simp only [Option.bind_some]
  rcases h.cases_ with ⟨h1, h2⟩ | ⟨_, h2, hF⟩
  · rw [if_neg h2]
    simp only [changelinglaw05_FixShape.j0, if_true]
    rw [if_neg h2, h1, if_pos (by simp), known_at (by omega)]; rfl
  · rw [if_pos h2, h2]
    simp only [changelinglaw05_FixShape.j0]
    by_cases c : (l0.length : Int) > 300
    · rw [if_pos (decide_eq_true c)]; simp only [if_true]; rw [known_at (by omega)]; rfl
    · rw [if_neg (by simpa using c), if_pos hF.hl, part_f (by have := hF.hl; have := hF.hn; omega) hF.whole (by omega)]
      simp only [Option.bind_some, changelinglaw05_FixShape.j1]
      rw [if_neg (by simp)]
      exact Shape_l0 hF 1024 _ 0 (by omega) (by have := hF.hl; have := hF.hn; omega) (by omega)
end Go.Proofs.Ytmiepbnjocojhaa.Pure
