/- The plain statement of FixParts: an operator that binds less than all others parts a row in two; no condition. -/
import Derived.Test.YtmiepbnjocojhaaQN11
import Derived.Test.YtmiepbnjocojhaaPureFixShape
namespace Go.Proofs.Ytmiepbnjocojhaa.Pure
open Go.RowKit Go.Proofs.Ytmiepbnjocojhaa.QN Go.Proofs.YtmiepbnjocojhaaW.PrintWords Go.Proofs.YtmiepbnjocojhaaW.PrintLast
theorem rd_app (l m : List S36) (f : S36) (j : Int) (h0 : 0 ≤ j) : rd_T36 (l ++ f :: m) j = if j < l.length then rd_T36 l j else if j = l.length then f else rd_T36 m (j - l.length - 1) := by
  unfold rd_T36
  rw [List.getD_eq_getElem?_getD, List.getD_eq_getElem?_getD, List.getD_eq_getElem?_getD]
  by_cases c : j < l.length
  · rw [if_pos c, List.getElem?_append_left (by omega)]
  · rw [if_neg c, List.getElem?_append_right (by omega)]
    by_cases e : j = l.length
    · rw [if_pos e]
      have : j.toNat - l.length = 0 := by omega
      rw [this]; rfl
    · rw [if_neg e]
      have : j.toNat - l.length = (j - l.length - 1).toNat + 1 := by omega
      rw [this, List.getElem?_cons_succ]
section
variable {l m : List S36} {f : S36}
theorem ap_l {j : Int} (h0 : 0 ≤ j) (h1 : j < l.length) : rd_T36 (l ++ f :: m) j = rd_T36 l j := by rw [rd_app l m f j h0, if_pos h1]
theorem ap_f : rd_T36 (l ++ f :: m) l.length = f := by rw [rd_app l m f _ (by omega), if_neg (by omega), if_pos rfl]
theorem ap_m {j : Int} (h0 : 0 ≤ j) : rd_T36 (l ++ f :: m) (j + l.length + 1) = rd_T36 m j := by
  rw [rd_app l m f _ (by omega), if_neg (by omega), if_neg (by omega)]
  congr 1
  omega
theorem ap_len : ((l ++ f :: m).length : Int) = l.length + m.length + 1 := by simp; omega
theorem clash_l {k : Int} (h0 : 0 ≤ k) (h1 : k < l.length) (hc : Clash (lv l) (sd l) k) : Clash (lv (l ++ f :: m)) (sd (l ++ f :: m)) k := by
  obtain ⟨i, i0, ik, e, hj, n1, n2⟩ := hc
  simp only [lv, sd] at e hj n1 n2
  refine ⟨i, i0, ik, ?_, fun j a b => ?_, ?_, ?_⟩ <;> simp only [lv, sd]
  · rw [ap_l i0 (by omega), ap_l h0 h1]; exact e
  · rw [ap_l i0 (by omega), ap_l (by omega) (by omega)]; exact hj j a b
  · rw [ap_l i0 (by omega), ap_l h0 h1]; exact n1
  · rw [ap_l i0 (by omega), ap_l h0 h1]; exact n2
theorem clash_m {k : Int} (h0 : 0 ≤ k) (_ : k < m.length) (hc : Clash (lv m) (sd m) k) : Clash (lv (l ++ f :: m)) (sd (l ++ f :: m)) (k + l.length + 1) := by
  obtain ⟨i, i0, ik, e, hj, n1, n2⟩ := hc
  simp only [lv, sd] at e hj n1 n2
  refine ⟨i + l.length + 1, by omega, by omega, ?_, fun j a b => ?_, ?_, ?_⟩ <;> simp only [lv, sd]
  · rw [ap_m i0, ap_m h0]; exact e
  · have := hj (j - l.length - 1) (by omega) (by omega)
    rw [ap_m i0]
    have e2 := ap_m (l := l) (m := m) (f := f) (j := j - l.length - 1) (by omega)
    rw [show j - l.length - 1 + l.length + 1 = j by omega] at e2
    rw [e2]; exact this
  · rw [ap_m i0, ap_m h0]; exact n1
  · rw [ap_m i0, ap_m h0]; exact n2
variable (hl : ∀ j : Int, 0 ≤ j → j < l.length → f.f2 < (rd_T36 l j).f2) (hm : ∀ j : Int, 0 ≤ j → j < m.length → f.f2 < (rd_T36 m j).f2)
include hl hm
theorem ap_low {j : Int} (h0 : 0 ≤ j) (h1 : j < (l ++ f :: m).length) (h2 : j ≠ l.length) : f.f2 < (rd_T36 (l ++ f :: m) j).f2 := by
  rw [ap_len] at h1
  rw [rd_app l m f j h0]
  by_cases c : j < l.length
  · rw [if_pos c]; exact hl j h0 c
  · rw [if_neg c, if_neg h2]; exact hm _ (by omega) (by omega)
theorem ap_clash {k : Int} (h0 : 0 ≤ k) (h1 : k < (l ++ f :: m).length) (hc : Clash (lv (l ++ f :: m)) (sd (l ++ f :: m)) k) :
    (k < l.length ∧ Clash (lv l) (sd l) k) ∨ (l.length < k ∧ Clash (lv m) (sd m) (k - l.length - 1)) := by
  obtain ⟨i, i0, ik, e, hj, n1, n2⟩ := hc
  have hlen := ap_len (l := l) (m := m) (f := f)
  simp only [lv, sd] at e hj n1 n2
  by_cases c : k < l.length
  · left
    refine ⟨c, i, i0, ik, ?_, fun j a b => ?_, ?_, ?_⟩
    · simp only [lv]; rw [ap_l i0 (by omega), ap_l h0 c] at e; exact e
    · have := hj j a b; rw [ap_l i0 (by omega), ap_l (by omega) (by omega)] at this; exact this
    · simp only [sd]; rw [ap_l i0 (by omega), ap_l h0 c] at n1; exact n1
    · simp only [sd]; rw [ap_l i0 (by omega), ap_l h0 c] at n2; exact n2
  · have hk : k ≠ l.length := by
      intro hk
      have h2 := ap_low hl hm i0 (by omega) (show i ≠ l.length by omega)
      rw [e, hk, ap_f] at h2
      omega
    have hi : l.length < i := by
      apply Classical.byContradiction
      intro hi
      by_cases hie : i = l.length
      · have h2 := ap_low hl hm h0 h1 hk
        rw [← e, hie, ap_f] at h2
        omega
      · have h2 := hj l.length (by omega) (by omega)
        have h3 := ap_low hl hm i0 (by omega) hie
        rw [ap_f] at h2
        omega
    right
    have tr : ∀ j : Int, l.length < j → rd_T36 (l ++ f :: m) j = rd_T36 m (j - l.length - 1) := fun j hj => by
      have := ap_m (l := l) (m := m) (f := f) (j := j - l.length - 1) (by omega)
      rw [← this]; congr 1; omega
    refine ⟨by omega, i - l.length - 1, by omega, by omega, ?_, fun j a b => ?_, ?_, ?_⟩
    · simp only [lv]; rw [tr i hi, tr k (by omega)] at e; exact e
    · have := hj (j + l.length + 1) (by omega) (by omega); rw [tr i hi, ap_m (by omega)] at this; exact this
    · simp only [sd]; rw [tr i hi, tr k (by omega)] at n1; exact n1
    · simp only [sd]; rw [tr i hi, tr k (by omega)] at n2; exact n2
theorem sp_l {i a b : Int} (s : Sp (lv l) (sd l) 0 l.length i a b) : Sp (lv (l ++ f :: m)) (sd (l ++ f :: m)) 0 (l ++ f :: m).length i a b := by
  have h1 := s.la; have h2 := s.ai; have h3 := s.ib; have h4 := s.bh
  have hlen := ap_len (l := l) (m := m) (f := f)
  have tr : ∀ j : Int, 0 ≤ j → j < l.length → lv (l ++ f :: m) j = lv l j ∧ sd (l ++ f :: m) j = sd l j := fun j a b => by simp only [lv, sd]; rw [ap_l a b]; exact ⟨rfl, rfl⟩
  refine ⟨h1, h2, h3, by omega, fun j a b => ?_, ?_, fun j a b => ?_, ?_⟩
  · have := s.nl j a b; unfold notL at *; rw [(tr j (by omega) (by omega)).1, (tr j (by omega) (by omega)).2, (tr i (by omega) (by omega)).1, (tr i (by omega) (by omega)).2]; exact this
  · rcases s.ol with e | e
    · exact Or.inl e
    · by_cases c : a = 0
      · exact Or.inl c
      · right; unfold outL at *; rw [(tr (a - 1) (by omega) (by omega)).1, (tr (a - 1) (by omega) (by omega)).2, (tr i (by omega) (by omega)).1, (tr i (by omega) (by omega)).2]; exact e
  · have := s.nr j a b; unfold notR at *; rw [(tr j (by omega) (by omega)).1, (tr j (by omega) (by omega)).2, (tr i (by omega) (by omega)).1, (tr i (by omega) (by omega)).2]; exact this
  · right
    rcases s.or_ with e | e
    · unfold outR
      left
      have h5 := ap_low hl hm (j := i) (by omega) (by omega) (by omega)
      simp only [lv]
      rw [e, ap_f]; exact h5
    · by_cases c : b = l.length
      · unfold outR
        left
        have h5 := ap_low hl hm (j := i) (by omega) (by omega) (by omega)
        simp only [lv]
        rw [c, ap_f]; exact h5
      · unfold outR at *; rw [(tr b (by omega) (by omega)).1, (tr b (by omega) (by omega)).2, (tr i (by omega) (by omega)).1, (tr i (by omega) (by omega)).2]; exact e
theorem sp_m {i a b : Int} (s : Sp (lv m) (sd m) 0 m.length i a b) : Sp (lv (l ++ f :: m)) (sd (l ++ f :: m)) 0 (l ++ f :: m).length (i + l.length + 1) (a + l.length + 1) (b + l.length + 1) := by
  have h1 := s.la; have h2 := s.ai; have h3 := s.ib; have h4 := s.bh
  have hlen := ap_len (l := l) (m := m) (f := f)
  have tr : ∀ j : Int, 0 ≤ j → lv (l ++ f :: m) (j + l.length + 1) = lv m j ∧ sd (l ++ f :: m) (j + l.length + 1) = sd m j := fun j a => by simp only [lv, sd]; rw [ap_m a]; exact ⟨rfl, rfl⟩
  have ti := tr i (by omega)
  refine ⟨by omega, by omega, by omega, by omega, fun j x y => ?_, ?_, fun j x y => ?_, ?_⟩
  · have := s.nl (j - l.length - 1) (by omega) (by omega)
    have t := tr (j - l.length - 1) (by omega)
    rw [show j - l.length - 1 + l.length + 1 = j by omega] at t
    unfold notL at *; rw [t.1, t.2, ti.1, ti.2]; exact this
  · right
    by_cases c : a = 0
    · unfold outL
      left
      have h5 := ap_low hl hm (j := i + l.length + 1) (by omega) (by omega) (by omega)
      simp only [lv]
      rw [c, show (0 : Int) + l.length + 1 - 1 = l.length by omega, ap_f]; exact h5
    · rcases s.ol with e | e
      · exact absurd e c
      · have t := tr (a - 1) (by omega)
        rw [show a - 1 + l.length + 1 = a + l.length + 1 - 1 by omega] at t
        unfold outL at *; rw [t.1, t.2, ti.1, ti.2]; exact e
  · have := s.nr (j - l.length - 1) (by omega) (by omega)
    have t := tr (j - l.length - 1) (by omega)
    rw [show j - l.length - 1 + l.length + 1 = j by omega] at t
    unfold notR at *; rw [t.1, t.2, ti.1, ti.2]; exact this
  · rcases s.or_ with e | e
    · left; omega
    · have t := tr b (by omega)
      right; unfold outR at *; rw [t.1, t.2, ti.1, ti.2]; exact e
theorem sp_f : Sp (lv (l ++ f :: m)) (sd (l ++ f :: m)) 0 (l ++ f :: m).length l.length 0 (l ++ f :: m).length := by
  have hlen := ap_len (l := l) (m := m) (f := f)
  refine ⟨by omega, by omega, by omega, by omega, fun j x y => ?_, Or.inl rfl, fun j x y => ?_, Or.inl rfl⟩
  · left; have := ap_low hl hm (j := j) (by omega) (by omega) (by omega); simp only [lv]; rw [ap_f]; exact this
  · left; have := ap_low hl hm (j := j) (by omega) (by omega) (by omega); simp only [lv]; rw [ap_f]; exact this
/-- What is given for the whole row, out of what is given for its parts. -/
theorem ap_out (hr : rightR f) {x y z : List S32 × Int × Int} (hx : Out l x) (hy : Out m y) (hz : Out (l ++ f :: m) z) (h1 : l.length ≤ 300) (h2 : m.length ≤ 300) :
    (x.2.2 = 0 ∧ y.2.2 = 0 ∧ z.2.2 = 0 ∧ Fine l x.1 ∧ Fine m y.1 ∧ Fine (l ++ f :: m) z.1) ∨ ((x.2.2 ≠ 0 ∨ y.2.2 ≠ 0) ∧ z.2.2 ≠ 0 ∧ z.1 = []) := by
  have hlen := ap_len (l := l) (m := m) (f := f)
  rcases hx.cases_ with ⟨ex, ex2⟩ | ⟨_, ex2, fx⟩
  · right
    refine ⟨Or.inl ex2, ?_⟩
    rcases hz.cases_ with ⟨ez, ez2⟩ | ⟨_, ez2, fz⟩
    · exact ⟨ez2, ez⟩
    · exfalso
      cases hx with
      | long c => omega
      | bad k a b c d _ => exact d (by have := fz.hr k b (by omega); rw [ap_l b c] at this; exact this)
      | clash k a b c d hc _ => exact fz.hc k c (by omega) (clash_l c d hc)
      | fine os a b c d e => exact ex2 rfl
  · rcases hy.cases_ with ⟨ey, ey2⟩ | ⟨_, ey2, fy⟩
    · right
      refine ⟨Or.inr ey2, ?_⟩
      rcases hz.cases_ with ⟨ez, ez2⟩ | ⟨_, ez2, fz⟩
      · exact ⟨ez2, ez⟩
      · exfalso
        cases hy with
        | long c => omega
        | bad k a b c d _ => exact d (by have := fz.hr (k + l.length + 1) (by omega) (by omega); rw [ap_m b] at this; exact this)
        | clash k a b c d hc _ => exact fz.hc (k + l.length + 1) (by omega) (by omega) (clash_m c d hc)
        | fine os a b c d e => exact ey2 rfl
    · left
      rcases hz.cases_ with ⟨ez, ez2⟩ | ⟨_, ez2, fz⟩
      · exfalso
        cases hz with
        | long c => omega
        | bad k a b c d _ =>
          rw [rd_app l m f k b] at d
          by_cases c1 : k < l.length
          · rw [if_pos c1] at d; exact d (fx.hr k b c1)
          · rw [if_neg c1] at d
            by_cases c2 : k = l.length
            · rw [if_pos c2] at d; exact d hr
            · rw [if_neg c2] at d; exact d (fy.hr _ (by omega) (by omega))
        | clash k a b c d hc _ =>
          rcases ap_clash hl hm c d hc with ⟨h, hc⟩ | ⟨h, hc⟩
          · exact fx.hc k c h hc
          · exact fy.hc _ (by omega) (by omega) hc
        | fine os a b c d e => exact ez2 rfl
      · exact ⟨ex2, ey2, ez2, fx, fy, fz⟩
end
theorem S36_eta (f : S36) : (⟨f.f0, f.f1, f.f2, (⟨f.f3.f0, f.f3.f1⟩ : S34)⟩ : S36) = f := rfl
theorem take_rd (l : List S36) (i : Nat) (h : i < l.length) : l.take i ++ [rd_T36 l (i : Int)] = l.take (i + 1) := by
  have e : rd_T36 l (i : Int) = l[i] := by simp [rd_T36, h]
  rw [e]; exact List.take_append_getElem h
theorem P_l0 (l m : List S36) (f : S36) (hl : l.length ≤ 300) : ∀ (d k i : Nat), d + 200 < k → i + d = l.length →
    ((∃ j : Nat, i ≤ j ∧ j < l.length ∧ (rd_T36 l (j : Int)).f2 ≤ f.f2) → changelinglaw05_FixParts.l0 k l m (l.take i) (i : Int) f.f0 f.f1 f.f2 f.f3.f0 f.f3.f1 = some true) ∧
    ((∀ j : Nat, i ≤ j → j < l.length → f.f2 < (rd_T36 l (j : Int)).f2) → ∃ k', k = k' + d + 1 ∧ changelinglaw05_FixParts.l0 k l m (l.take i) (i : Int) f.f0 f.f1 f.f2 f.f3.f0 f.f3.f1 = changelinglaw05_FixParts.l1 k' l m (l ++ [f]) 0 f.f0 f.f1 f.f2 f.f3.f0 f.f3.f1) := by
  intro d
  induction d with
  | zero =>
    intro k i hk hi
    obtain ⟨k, rfl⟩ : ∃ k', k = k' + 1 := ⟨k - 1, by omega⟩
    refine ⟨fun ⟨j, a, b, _⟩ => by omega, fun _ => ⟨k, rfl, ?_⟩⟩
    rw [changelinglaw05_FixParts.l0, if_neg (by omega), if_pos (by rw [List.length_take]; omega), S36_eta, List.take_of_length_le (by omega)]
  | succ d ih =>
    intro k i hk hi
    obtain ⟨k, rfl⟩ : ∃ k', k = k' + 1 := ⟨k - 1, by omega⟩
    have hs := ih k (i + 1) (by omega) (by omega)
    rw [changelinglaw05_FixParts.l0, if_pos (by omega), if_pos (by omega), S36_eta, take_rd l i (by omega), w64_id (by omega) (by omega)]
    by_cases c : (rd_T36 l (i : Int)).f2 ≤ f.f2
    · rw [if_pos c, known_at (by omega)]
      exact ⟨fun _ => rfl, fun h => by have := h i (by omega) (by omega); omega⟩
    · rw [if_neg c, if_pos (by rw [List.length_take]; omega)]
      push_cast at hs
      refine ⟨fun ⟨j, a, b, h⟩ => hs.1 ⟨j, ?_, b, h⟩, fun h => ?_⟩
      · rcases Nat.eq_or_lt_of_le a with e | e
        · subst e; exact absurd h c
        · omega
      · obtain ⟨k', e, h2⟩ := hs.2 (fun j a b => h j (by omega) b)
        exact ⟨k', by omega, h2⟩
theorem P_l1 (l m : List S36) (f : S36) (hl : l.length ≤ 300) (hm : m.length ≤ 300) : ∀ (d k i : Nat), d + 200 < k → i + d = m.length →
    ((∃ j : Nat, i ≤ j ∧ j < m.length ∧ (rd_T36 m (j : Int)).f2 ≤ f.f2) → changelinglaw05_FixParts.l1 k l m (l ++ [f] ++ m.take i) (i : Int) f.f0 f.f1 f.f2 f.f3.f0 f.f3.f1 = some true) ∧
    ((∀ j : Nat, i ≤ j → j < m.length → f.f2 < (rd_T36 m (j : Int)).f2) → ∃ k', k = k' + d + 1 ∧ changelinglaw05_FixParts.l1 k l m (l ++ [f] ++ m.take i) (i : Int) f.f0 f.f1 f.f2 f.f3.f0 f.f3.f1 =
      ((fix_Resolve.f l).bind fun bt349 => ((fix_Resolve.f m).bind fun bt354 => ((fix_Resolve.f (l ++ f :: m)).bind fun bt359 => (if bt349.2.2 = 0 then (changelinglaw05_FixParts.j3 k' l m (l ++ f :: m) bt349.1 bt354.1 bt359.1 bt359.2.2 (bt354.2.2 != 0)) else (changelinglaw05_FixParts.j3 k' l m (l ++ f :: m) bt349.1 bt354.1 bt359.1 bt359.2.2 true)))))) := by
  intro d
  induction d with
  | zero =>
    intro k i hk hi
    obtain ⟨k, rfl⟩ : ∃ k', k = k' + 1 := ⟨k - 1, by omega⟩
    refine ⟨fun ⟨j, a, b, _⟩ => by omega, fun _ => ⟨k, rfl, ?_⟩⟩
    rw [changelinglaw05_FixParts.l1, if_neg (by omega), List.take_of_length_le (by omega), List.append_assoc]
    rfl
  | succ d ih =>
    intro k i hk hi
    obtain ⟨k, rfl⟩ : ∃ k', k = k' + 1 := ⟨k - 1, by omega⟩
    have hs := ih k (i + 1) (by omega) (by omega)
    have ea : l ++ [f] ++ m.take i ++ [rd_T36 m (i : Int)] = l ++ [f] ++ m.take (i + 1) := by rw [List.append_assoc, take_rd m i (by omega)]
    rw [changelinglaw05_FixParts.l1, if_pos (by omega), if_pos (by omega), S36_eta, ea, w64_id (by omega) (by omega)]
    by_cases c : (rd_T36 m (i : Int)).f2 ≤ f.f2
    · rw [if_pos c, known_at (by omega)]
      exact ⟨fun _ => rfl, fun h => by have := h i (by omega) (by omega); omega⟩
    · rw [if_neg c, if_pos (by simp; omega)]
      push_cast at hs
      refine ⟨fun ⟨j, a, b, h⟩ => hs.1 ⟨j, ?_, b, h⟩, fun h => ?_⟩
      · rcases Nat.eq_or_lt_of_le a with e | e
        · subst e; exact absurd h c
        · omega
      · obtain ⟨k', e, h2⟩ := hs.2 (fun j a b => h j (by omega) b)
        exact ⟨k', by omega, h2⟩
theorem w64_a {i n : Int} (h0 : 0 ≤ i) (h1 : i ≤ 1000) (h2 : 0 ≤ n) (h3 : n ≤ 1000) : wrap64 (wrap64 (n + 1) + i) = i + n + 1 := by
  rw [w64_id (n := n + 1) (by omega) (by omega), w64_id (by omega) (by omega)]; omega
theorem w64_b {x n : Int} (h0 : 0 ≤ x) (h1 : x ≤ 1000) (h2 : 0 ≤ n) (h3 : n ≤ 1000) : wrap64 (wrap64 (x + n) + 1) = x + n + 1 := by
  rw [w64_id (n := x + n) (by omega) (by omega), w64_id (by omega) (by omega)]
theorem w64_c {i : Int} (h0 : 0 ≤ i) (h1 : i ≤ 1000) : wrap64 (i + 1) = i + 1 := w64_id (by omega) (by omega)
theorem P_l3 {l m : List S36} {f : S36} (hl : ∀ j : Int, 0 ≤ j → j < l.length → f.f2 < (rd_T36 l j).f2) (hm : ∀ j : Int, 0 ≤ j → j < m.length → f.f2 < (rd_T36 m j).f2) {b s : List S32} (h1 : l.length ≤ 300) (h2 : m.length ≤ 300) (fm : Fine m b) (fa : Fine (l ++ f :: m) s) :
    ∀ (d k i : Nat), d + 200 < k → i + d = m.length → changelinglaw05_FixParts.l3 k (l ++ f :: m) b s (l.length : Int) (i : Int) = some true := by
  have hlen := ap_len (l := l) (m := m) (f := f)
  have e1 := fm.hl
  have e2 := fa.hl
  intro d
  induction d with
  | zero =>
    intro k i hk hi
    obtain ⟨k, rfl⟩ : ∃ k', k = k' + 1 := ⟨k - 1, by omega⟩
    rw [changelinglaw05_FixParts.l3, if_neg (by omega), if_pos (by omega), if_pos (by omega), fa.at_ (sp_f hl hm), if_pos rfl, if_pos rfl, known_at (by omega)]
    rfl
  | succ d ih =>
    intro k i hk hi
    obtain ⟨k, rfl⟩ : ∃ k', k = k' + 1 := ⟨k - 1, by omega⟩
    have hs := ih k (i + 1) (by omega) (by omega)
    push_cast at hs
    obtain ⟨x, y, e, sp⟩ := fm.hs (i : Int) (by omega) (by omega)
    have := sp.la; have := sp.ai; have := sp.ib; have := sp.bh
    have c1 : (i : Int) < (b.length : Int) := by omega
    have c2 : 0 ≤ (i : Int) + l.length + 1 := by omega
    have c3 : (i : Int) + l.length + 1 < (s.length : Int) := by omega
    have c4 : 0 ≤ (i : Int) := by omega
    have b1 : (i : Int) ≤ 1000 := by omega
    have b2 : 0 ≤ (l.length : Int) ∧ (l.length : Int) ≤ 1000 := by omega
    have b3 : 0 ≤ x ∧ x ≤ 1000 := by omega
    have b4 : 0 ≤ y ∧ y ≤ 1000 := by omega
    have e7 := fa.at_ (sp_m hl hm sp)
    simp only [changelinglaw05_FixParts.l3, w64_a c4 b1 b2.1 b2.2, e, e7, w64_b b3.1 b3.2 b2.1 b2.2, w64_b b4.1 b4.2 b2.1 b2.2, w64_c c4 b1, if_pos c1, if_pos c2, if_pos c3, if_pos c4, if_true]
    exact hs
theorem P_l2 {l m : List S36} {f : S36} (hl : ∀ j : Int, 0 ≤ j → j < l.length → f.f2 < (rd_T36 l j).f2) (hm : ∀ j : Int, 0 ≤ j → j < m.length → f.f2 < (rd_T36 m j).f2) {a b s : List S32} (h1 : l.length ≤ 300) (h2 : m.length ≤ 300) (fl : Fine l a) (fm : Fine m b) (fa : Fine (l ++ f :: m) s) :
    ∀ (d k i : Nat), d + 600 < k → i + d = l.length → changelinglaw05_FixParts.l2 k (l ++ f :: m) a b s (l.length : Int) (i : Int) = some true := by
  have hlen := ap_len (l := l) (m := m) (f := f)
  have e1 := fl.hl
  have e2 := fa.hl
  intro d
  induction d with
  | zero =>
    intro k i hk hi
    obtain ⟨k, rfl⟩ : ∃ k', k = k' + 1 := ⟨k - 1, by omega⟩
    rw [changelinglaw05_FixParts.l2, if_neg (by omega)]
    exact P_l3 hl hm h1 h2 fm fa m.length k 0 (by omega) (by omega)
  | succ d ih =>
    intro k i hk hi
    obtain ⟨k, rfl⟩ : ∃ k', k = k' + 1 := ⟨k - 1, by omega⟩
    have hs := ih k (i + 1) (by omega) (by omega)
    push_cast at hs
    obtain ⟨x, y, e, sp⟩ := fl.hs (i : Int) (by omega) (by omega)
    rw [changelinglaw05_FixParts.l2, if_pos (by omega), if_pos (by omega), if_pos (by omega), e, fa.at_ (sp_l hl hm sp), if_neg (by simp), w64_id (by omega) (by omega)]
    exact hs
theorem right_ref (f : S36) : changelingref05_Right.f f.f0 f.f1 f.f2 f.f3.f0 f.f3.f1 = some (decide (rightR f)) := by
  unfold changelingref05_Right.f
  by_cases h1 : f.f1 ≥ 0
  · by_cases h2 : f.f1 ≤ 2
    · by_cases h3 : f.f2 ≥ 0
      · rw [if_pos h1, if_pos h2, if_pos h3]; congr 1; apply decide_eq_decide.2; unfold rightR; omega
      · rw [if_pos h1, if_pos h2, if_neg h3]; congr 1; symm; apply decide_eq_false; unfold rightR; omega
    · rw [if_pos h1, if_neg h2]; congr 1; symm; apply decide_eq_false; unfold rightR; omega
  · rw [if_neg h1]; congr 1; symm; apply decide_eq_false; unfold rightR; omega
theorem FixParts (l0 : List S36) (a1 : S36) (l2 : List S36) (_ : l0.length ≤ maxLen) (_ : ∀ x ∈ l0, (Lit.int .i64 x.f1).wf = true ∧ (Lit.int .i64 x.f2).wf = true) (_ : (Lit.int .i64 a1.f1).wf = true ∧ (Lit.int .i64 a1.f2).wf = true) (_ : l2.length ≤ maxLen) (_ : ∀ x ∈ l2, (Lit.int .i64 x.f1).wf = true ∧ (Lit.int .i64 x.f2).wf = true) :
    ∃ k, changelinglaw05_FixParts.f k l0 a1.f0 a1.f1 a1.f2 a1.f3.f0 a1.f3.f1 l2 = some true := by
  refine ⟨5000, ?_⟩
  generalize hK : (5000 : Nat) = K
  obtain ⟨k, rfl⟩ : ∃ k, K = k + 1 := ⟨K - 1, by omega⟩
  have kn : ∀ b, changelinglaw05_FixParts.j0 (k + 1) l0 l2 true b a1.f1 a1.f2 a1.f3.f0 a1.f3.f1 = some true := fun b => by
    rw [changelinglaw05_FixParts.j0, if_pos rfl, known_at (by omega)]; rfl
  unfold changelinglaw05_FixParts.f
  by_cases c1 : (l0.length : Int) > 300
  · rw [if_pos c1]; exact kn _
  · rw [if_neg c1]
    by_cases c2 : (l2.length : Int) > 300
    · rw [if_pos c2]; exact kn _
    · rw [if_neg c2, right_ref]
      simp only [Option.bind_some]
      by_cases hr : rightR a1
      · rw [decide_eq_true hr, changelinglaw05_FixParts.j0, if_neg (by simp)]
        have H0 := P_l0 l0 l2 a1 (by omega) l0.length k 0 (by omega) (by omega)
        rw [List.take_zero] at H0
        by_cases b1 : ∃ j : Nat, 0 ≤ j ∧ j < l0.length ∧ (rd_T36 l0 (j : Int)).f2 ≤ a1.f2
        · exact H0.1 b1
        · have hl : ∀ j : Nat, 0 ≤ j → j < l0.length → a1.f2 < (rd_T36 l0 (j : Int)).f2 := fun j x y => by
            apply Classical.byContradiction
            intro h
            exact b1 ⟨j, x, y, by omega⟩
          obtain ⟨k1, e1, h1⟩ := H0.2 hl
          refine h1.trans ?_
          have H1 := P_l1 l0 l2 a1 (by omega) (by omega) l2.length k1 0 (by omega) (by omega)
          rw [List.take_zero, List.append_nil] at H1
          by_cases b2 : ∃ j : Nat, 0 ≤ j ∧ j < l2.length ∧ (rd_T36 l2 (j : Int)).f2 ≤ a1.f2
          · exact H1.1 b2
          · have hm : ∀ j : Nat, 0 ≤ j → j < l2.length → a1.f2 < (rd_T36 l2 (j : Int)).f2 := fun j x y => by
              apply Classical.byContradiction
              intro h
              exact b2 ⟨j, x, y, by omega⟩
            obtain ⟨k2, e2, h2⟩ := H1.2 hm
            refine h2.trans ?_
            have hl' : ∀ j : Int, 0 ≤ j → j < l0.length → a1.f2 < (rd_T36 l0 j).f2 := fun j x y => by
              have := hl j.toNat (by omega) (by omega)
              rwa [Int.toNat_of_nonneg x] at this
            have hm' : ∀ j : Int, 0 ≤ j → j < l2.length → a1.f2 < (rd_T36 l2 j).f2 := fun j x y => by
              have := hm j.toNat (by omega) (by omega)
              rwa [Int.toNat_of_nonneg x] at this
            obtain ⟨x, ex, ox⟩ := resolve_out l0
            obtain ⟨y, ey, oy⟩ := resolve_out l2
            obtain ⟨z, ez, oz⟩ := resolve_out (l0 ++ a1 :: l2)
            rw [ex, ey, ez]
            simp only [Option.bind_some]
            obtain ⟨k3, rfl⟩ : ∃ k3, k2 = k3 + 2 := ⟨k2 - 2, by omega⟩
            have hlen := ap_len (l := l0) (m := l2) (f := a1)
            rcases ap_out hl' hm' hr ox oy oz (by omega) (by omega) with ⟨x0, y0, z0, fx, fy, fz⟩ | ⟨hxy, z0, zn⟩
            · have := fx.hl; have := fy.hl; have := fz.hl
              rw [if_pos x0, y0, z0, changelinglaw05_FixParts.j3, if_neg (by simp), if_pos rfl, if_pos (by rw [w64_id (n := (x.1.length : Int) + y.1.length) (by omega) (by omega), w64_id (by omega) (by omega)]; omega), if_pos (by omega), changelinglaw05_FixParts.j4, if_neg (by simp; omega)]
              exact P_l2 hl' hm' (by omega) (by omega) fx fy fz l0.length k3 0 (by omega) (by omega)
            · have fin : changelinglaw05_FixParts.j3 (k3 + 2) l0 l2 (l0 ++ a1 :: l2) x.1 y.1 z.1 z.2.2 true = some true := by
                rw [changelinglaw05_FixParts.j3, if_pos rfl, if_neg z0, zn, if_pos (by simp), known_at (by omega)]; rfl
              by_cases x0 : x.2.2 = 0
              · rw [if_pos x0]
                rcases hxy with h | h
                · exact absurd x0 h
                · have : (y.2.2 != 0) = true := by simpa using h
                  rw [this]; exact fin
              · rw [if_neg x0]; exact fin
      · rw [decide_eq_false hr]
        exact kn _
end Go.Proofs.Ytmiepbnjocojhaa.Pure
