/- The plain law of grouping, the document's side: the reference finds the same clash, and gives the same spans; no condition but the row's length. -/
import Derived.Test.YtmiepbnjocojhaaQN4
import Derived.Test.YtmiepbnjocojhaaPureSpan
namespace Go.Proofs.Ytmiepbnjocojhaa.Pure
open Go.RowKit Go.Proofs.Ytmiepbnjocojhaa.QN Go.Proofs.YtmiepbnjocojhaaW.PrintWords Go.Proofs.YtmiepbnjocojhaaW.PrintLast
set_option linter.unusedVariables false
theorem w64_id {n : Int} (h : -9223372036854775808 ≤ n) (h2 : n ≤ 9223372036854775807) : wrap64 n = n := by unfold wrap64; omega

theorem meets_l0 (l : List S36) (hn : l.length ≤ 1024) (i kk : Int) (hi : 0 ≤ i) (hik : i < l.length) (hkk : kk ≤ l.length) : ∀ (m : Nat) (k : Nat) (x : Int), m < k → 0 ≤ x → kk - x ≤ m →
    ((∀ j, x ≤ j → j < kk → lv l i < lv l j) → changelingref05_meets.l0 k l i kk x = some true) ∧ ((∃ j, x ≤ j ∧ j < kk ∧ lv l j ≤ lv l i) → changelingref05_meets.l0 k l i kk x = some false)
  | m, 0, x, h, _, _ => absurd h (by omega)
  | m, k + 1, x, h, h0, hm => by
    simp only [changelingref05_meets.l0]
    by_cases c : x < kk
    · rw [if_pos c, if_pos h0, if_pos (by omega), if_pos hi, if_pos hik]
      by_cases c2 : (rd_T36 l x).f2 ≤ (rd_T36 l i).f2
      · rw [if_pos c2]
        exact ⟨fun hh => by have := hh x (by omega) c; simp only [lv] at this; omega, fun _ => rfl⟩
      · rw [if_neg c2, w64_id (by omega) (by omega)]
        match m with
        | 0 => omega
        | m + 1 =>
          obtain ⟨h1, h2⟩ := meets_l0 l hn i kk hi hik hkk m k (x + 1) (by omega) (by omega) (by omega)
          refine ⟨fun hh => h1 fun j a b => hh j (by omega) b, fun ⟨j, a, b, e⟩ => h2 ⟨j, ?_, b, e⟩⟩
          by_cases e2 : j = x
          · subst e2; exact absurd e c2
          · omega
    · rw [if_neg c]
      exact ⟨fun _ => rfl, fun ⟨j, a, b, _⟩ => by omega⟩
def Meets (v : Int → Int) (i k : Int) : Prop := v i = v k ∧ ∀ j, i < j → j < k → v i < v j
theorem meets_f (l : List S36) (hn : l.length ≤ 1024) (i kk : Int) (hi : 0 ≤ i) (hik : i < kk) (hkk : kk < l.length) (k : Nat) (hk : 2000 ≤ k) :
    (Meets (lv l) i kk → changelingref05_meets.f k l i kk = some true) ∧ (¬ Meets (lv l) i kk → changelingref05_meets.f k l i kk = some false) := by
  unfold changelingref05_meets.f
  rw [if_pos hi, if_pos (by omega), if_pos (by omega), if_pos hkk, w64_id (by omega) (by omega)]
  obtain ⟨h1, h2⟩ := meets_l0 l hn i kk hi (by omega) (by omega) 1024 k (i + 1) (by omega) (by omega) (by omega)
  by_cases c : (rd_T36 l i).f2 = (rd_T36 l kk).f2
  · rw [if_pos c]
    refine ⟨fun hh => h1 fun j a b => hh.2 j (by omega) b, fun hh => h2 ?_⟩
    apply Classical.byContradiction
    intro hne
    refine hh ⟨c, fun j a b => ?_⟩
    apply Classical.byContradiction
    intro hle
    exact hne ⟨j, by omega, b, by omega⟩
  · rw [if_neg c]
    exact ⟨fun hh => absurd hh.1 c, fun _ => rfl⟩
/-- An operator clashes with one from x on. -/
def ClashFrom (v s : Int → Int) (x k : Int) : Prop := ∃ i, x ≤ i ∧ i < k ∧ v i = v k ∧ (∀ j, i < j → j < k → v i < v j) ∧ ¬ (s i = 1 ∧ s k = 1) ∧ ¬ (s i = 2 ∧ s k = 2)
theorem clashes_l0 (l : List S36) (hn : l.length ≤ 1024) (kk : Int) (hkk0 : 0 ≤ kk) (hkk : kk < l.length) : ∀ (m : Nat) (k : Nat) (x : Int), m + 2000 < k → 0 ≤ x → kk - x ≤ m →
    (ClashFrom (lv l) (sd l) x kk → changelingref05_clashes.l0 k l kk x = some true) ∧ (¬ ClashFrom (lv l) (sd l) x kk → changelingref05_clashes.l0 k l kk x = some false)
  | m, 0, x, h, _, _ => absurd h (by omega)
  | m, k + 1, x, h, h0, hm => by
    simp only [changelingref05_clashes.l0]
    by_cases c : x < kk
    · rw [if_pos c]
      match m with
      | 0 => omega
      | m + 1 =>
        obtain ⟨r1, r2⟩ := clashes_l0 l hn kk hkk0 hkk m k (x + 1) (by omega) (by omega) (by omega)
        obtain ⟨m1, m2⟩ := meets_f l hn x kk h0 c hkk k (by omega)
        have down : ClashFrom (lv l) (sd l) (x + 1) kk → ClashFrom (lv l) (sd l) x kk := fun ⟨i, a, b⟩ => ⟨i, by omega, b⟩
        have up : ClashFrom (lv l) (sd l) x kk → (Meets (lv l) x kk → (sd l x = 1 ∧ sd l kk = 1) ∨ (sd l x = 2 ∧ sd l kk = 2)) → ClashFrom (lv l) (sd l) (x + 1) kk := by
          rintro ⟨i, a, b, e1, e2, e3, e4⟩ hx
          by_cases e : i = x
          · subst e
            rcases hx ⟨e1, e2⟩ with h | h
            · exact absurd h e3
            · exact absurd h e4
          · exact ⟨i, by omega, b, e1, e2, e3, e4⟩
        have go : (Meets (lv l) x kk → (sd l x = 1 ∧ sd l kk = 1) ∨ (sd l x = 2 ∧ sd l kk = 2)) →
            (ClashFrom (lv l) (sd l) x kk → changelingref05_clashes.l0 k l kk (wrap64 (x + 1)) = some true) ∧ (¬ ClashFrom (lv l) (sd l) x kk → changelingref05_clashes.l0 k l kk (wrap64 (x + 1)) = some false) := by
          intro hx
          rw [w64_id (by omega) (by omega)]
          exact ⟨fun hc => r1 (up hc hx), fun hc => r2 (fun h => hc (down h))⟩
        have yes : Meets (lv l) x kk → ¬ (sd l x = 1 ∧ sd l kk = 1) → ¬ (sd l x = 2 ∧ sd l kk = 2) → ClashFrom (lv l) (sd l) x kk := fun hm h1 h2 => ⟨x, by omega, c, hm.1, hm.2, h1, h2⟩
        by_cases cm : Meets (lv l) x kk
        · rw [m1 cm]
          simp only [Option.bind_some, if_true]
          rw [if_pos h0, if_pos (by omega)]
          by_cases c1 : (rd_T36 l x).f1 = 1
          · rw [if_pos c1, if_pos hkk0, if_pos hkk]
            by_cases c2 : (rd_T36 l kk).f1 = 1
            · rw [if_pos c2]; exact go fun _ => Or.inl ⟨c1, c2⟩
            · rw [if_neg c2, if_neg (by omega)]
              have := yes cm (fun h => c2 h.2) (fun h => by have := h.1; simp only [sd] at this; omega)
              exact ⟨fun _ => rfl, fun h => absurd this h⟩
          · rw [if_neg c1]
            by_cases c3 : (rd_T36 l x).f1 = 2
            · rw [if_pos c3, if_pos hkk0, if_pos hkk]
              by_cases c4 : (rd_T36 l kk).f1 = 2
              · rw [if_pos c4]; exact go fun _ => Or.inr ⟨c3, c4⟩
              · rw [if_neg c4]
                have := yes cm (fun h => c1 h.1) (fun h => c4 h.2)
                exact ⟨fun _ => rfl, fun h => absurd this h⟩
            · rw [if_neg c3]
              have := yes cm (fun h => c1 h.1) (fun h => c3 h.1)
              exact ⟨fun _ => rfl, fun h => absurd this h⟩
        · rw [m2 cm]
          simp only [Option.bind_some]
          rw [if_neg (by simp)]
          exact go fun h => absurd h cm
    · rw [if_neg c]
      exact ⟨fun ⟨i, a, b, _⟩ => by omega, fun _ => rfl⟩
theorem clashes_f (l : List S36) (hn : l.length ≤ 1024) (kk : Int) (hkk0 : 0 ≤ kk) (hkk : kk < l.length) (k : Nat) (hk : 4000 ≤ k) :
    (Clash (lv l) (sd l) kk → changelingref05_clashes.f k l kk = some true) ∧ (¬ Clash (lv l) (sd l) kk → changelingref05_clashes.f k l kk = some false) :=
  clashes_l0 l hn kk hkk0 hkk 1024 k 0 (by omega) (by omega) (by omega)
/-- Where nothing clashes, two operators of one level with none that binds less between them group to the same side. -/
theorem alike {v s : Int → Int} {n : Int} (hc : ∀ j, 0 ≤ j → j < n → ¬ Clash v s j) : ∀ (m : Nat) (i k : Int), k - i ≤ m → 0 ≤ i → i < k → k < n → v i = v k → (∀ j, i < j → j < k → v i ≤ v j) → (s i = 1 ∧ s k = 1) ∨ (s i = 2 ∧ s k = 2)
  | 0, i, k, hm, h0, h1, _, _, _ => by omega
  | m + 1, i, k, hm, h0, h1, h2, h3, h4 => by
    by_cases c : ∃ j, i < j ∧ j < k ∧ v j = v i
    · obtain ⟨j, a, b, e⟩ := c
      have x1 := alike hc m i j (by omega) h0 a (by omega) e.symm (fun q qa qb => h4 q qa (by omega))
      have x2 := alike hc m j k (by omega) (by omega) b h2 (by omega) (fun q qa qb => by have := h4 q (by omega) qb; omega)
      omega
    · by_cases d1 : s i = 1 ∧ s k = 1
      · exact Or.inl d1
      · by_cases d2 : s i = 2 ∧ s k = 2
        · exact Or.inr d2
        · refine absurd ⟨i, h0, h1, h3, fun j a b => ?_, d1, d2⟩ (hc k (by omega) h2)
          have := h4 j a b
          by_cases e : v j = v i
          · exact absurd ⟨j, a, b, e⟩ c
          · omega
/-- The operator of a part that binds least, and groups the part. -/
structure Root (v s : Int → Int) (lo hi at_ : Int) : Prop where
  la : lo ≤ at_
  ah : at_ < hi
  nl : ∀ j, lo ≤ j → j < at_ → notL v s j at_
  nr : ∀ j, at_ < j → j < hi → notR v s j at_
theorem Root.next {v s : Int → Int} {n lo x a : Int} (hc : ∀ j, 0 ≤ j → j < n → ¬ Clash v s j) (hlo : 0 ≤ lo) (hx : x < n) (h : Root v s lo x a) :
    (v x < v a → Root v s lo (x + 1) x) ∧ (v x = v a → s x = 1 → Root v s lo (x + 1) x) ∧ (v x = v a → s x ≠ 1 → Root v s lo (x + 1) a) ∧ (v a < v x → Root v s lo (x + 1) a) := by
  have hla := h.la
  have hah := h.ah
  have hal : v x = v a → (s a = 1 ∧ s x = 1) ∨ (s a = 2 ∧ s x = 2) := fun e => alike hc (x - a).toNat a x (by omega) (by omega) hah hx e.symm (fun j p q => by have := h.nr j p q; unfold notR at this; omega)
  refine ⟨fun e => ⟨by omega, by omega, fun j p q => ?_, fun j p q => by omega⟩, fun e e1 => ⟨by omega, by omega, fun j p q => ?_, fun j p q => by omega⟩, fun e e1 => ⟨hla, by omega, h.nl, fun j p q => ?_⟩, fun e => ⟨hla, by omega, h.nl, fun j p q => ?_⟩⟩
  · rcases Int.lt_trichotomy j a with c | c | c
    · have := h.nl j p c; unfold notL at *; omega
    · subst c; unfold notL; omega
    · have := h.nr j c q; unfold notR at this; unfold notL; omega
  · have := hal e
    rcases Int.lt_trichotomy j a with c | c | c
    · have := h.nl j p c; unfold notL at *; omega
    · subst c; unfold notL; omega
    · have := h.nr j c q; unfold notR at this; unfold notL; omega
  · have := hal e
    by_cases c : j = x
    · subst c; unfold notR; omega
    · exact h.nr j p (by omega)
  · by_cases c : j = x
    · subst c; unfold notR; omega
    · exact h.nr j p (by omega)
theorem root_l0 (l : List S36) (hn : l.length ≤ 1024) (hc : ∀ j : Int, 0 ≤ j → j < l.length → ¬ Clash (lv l) (sd l) j) (lo hi : Int) (hlo : 0 ≤ lo) (hhi : hi ≤ l.length) : ∀ (m : Nat) (k : Nat) (x a : Int), m < k → hi - x ≤ m → lo ≤ x → x ≤ hi →
    (lo < x → Root (lv l) (sd l) lo x a) → (x = lo → a = lo) → lo < hi → ∃ a', changelingref05_root.l0 k l hi a x = some a' ∧ Root (lv l) (sd l) lo hi a'
  | m, 0, x, a, h, _, _, _, _, _, _ => absurd h (by omega)
  | m, k + 1, x, a, h, hm, hx0, hx1, hr, he, hlh => by
    simp only [changelingref05_root.l0]
    by_cases c : x < hi
    · have hb : lo ≤ a ∧ a < l.length := by
        by_cases e : x = lo
        · have := he e; omega
        · have := (hr (by omega)).la; have := (hr (by omega)).ah; omega
      rw [if_pos c, if_pos (by omega), if_pos (by omega), if_pos (by omega), if_pos (by omega), w64_id (by omega) (by omega)]
      match m with
      | 0 => omega
      | m + 1 =>
        by_cases e : x = lo
        · rw [he e, e]
          have R0 : Root (lv l) (sd l) lo (lo + 1) lo := ⟨by omega, by omega, fun j p q => by omega, fun j p q => by omega⟩
          have := root_l0 l hn hc lo hi hlo hhi m k (lo + 1) lo (by omega) (by omega) (by omega) (by omega) (fun _ => R0) (fun h => by omega) hlh
          rw [if_neg (by omega), if_pos rfl, ite_self]
          exact this
        · obtain ⟨n1, n2, n3, n4⟩ := (hr (by omega)).next hc hlo (by omega)
          have go := fun a' (R : Root (lv l) (sd l) lo (x + 1) a') => root_l0 l hn hc lo hi hlo hhi m k (x + 1) a' (by omega) (by omega) (by omega) (by omega) (fun _ => R) (fun h => by omega) hlh
          by_cases c1 : (rd_T36 l x).f2 < (rd_T36 l a).f2
          · rw [if_pos c1]; exact go x (n1 c1)
          · rw [if_neg c1]
            by_cases c2 : (rd_T36 l x).f2 = (rd_T36 l a).f2
            · rw [if_pos c2]
              by_cases c3 : (rd_T36 l x).f1 = 1
              · rw [if_pos c3]; exact go x (n2 c2 c3)
              · rw [if_neg c3]; exact go a (n3 c2 c3)
            · rw [if_neg c2]; exact go a (n4 (by simp only [lv]; omega))
    · rw [if_neg c]
      have : x = hi := by omega
      subst this
      exact ⟨a, rfl, hr (by omega)⟩
theorem root_f (l : List S36) (hn : l.length ≤ 1024) (hc : ∀ j : Int, 0 ≤ j → j < l.length → ¬ Clash (lv l) (sd l) j) (lo hi : Int) (hlo : 0 ≤ lo) (hhi : hi ≤ l.length) (hlh : lo < hi) (k : Nat) (hk : 2000 ≤ k) :
    ∃ a', changelingref05_root.f k l lo hi = some a' ∧ Root (lv l) (sd l) lo hi a' :=
  root_l0 l hn hc lo hi hlo hhi 1024 k lo lo (by omega) (by omega) (by omega) (by omega) (fun h => by omega) (fun _ => rfl) hlh
theorem Sp.left {v s : Int → Int} {lo hi at_ i a b : Int} (hr : Root v s lo hi at_) (hi0 : lo ≤ i) (hi1 : i < at_) (h : Sp v s lo at_ i a b) : Sp v s lo hi i a b := by
  refine ⟨h.la, h.ai, h.ib, by have := h.bh; have := hr.ah; omega, h.nl, h.ol, h.nr, ?_⟩
  rcases h.or_ with e | e
  · right; rw [e]; have := hr.nl i hi0 hi1; unfold notL at this; unfold outR; omega
  · exact Or.inr e
theorem Sp.right {v s : Int → Int} {lo hi at_ i a b : Int} (hr : Root v s lo hi at_) (hi0 : at_ < i) (hi1 : i < hi) (h : Sp v s (at_ + 1) hi i a b) : Sp v s lo hi i a b := by
  refine ⟨by have := h.la; have := hr.la; omega, h.ai, h.ib, h.bh, h.nl, ?_, h.nr, h.or_⟩
  rcases h.ol with e | e
  · right; rw [e]; have := hr.nr i hi0 hi1; have e2 : at_ + 1 - 1 = at_ := by omega
    rw [e2]; unfold notR at this; unfold outL; omega
  · exact Or.inr e
theorem Sp.root {v s : Int → Int} {lo hi at_ : Int} (hr : Root v s lo hi at_) : Sp v s lo hi at_ lo hi :=
  ⟨by omega, hr.la, hr.ah, by omega, hr.nl, Or.inl rfl, hr.nr, Or.inl rfl⟩
theorem spans_f (l : List S36) (hn : l.length ≤ 1024) (hc : ∀ j : Int, 0 ≤ j → j < l.length → ¬ Clash (lv l) (sd l) j) : ∀ (m : Nat) (k : Nat) (os : List S32) (lo hi : Int), m + 2000 < k → hi - lo ≤ m → 0 ≤ lo → hi ≤ l.length → os.length = l.length →
    ∃ os', changelingref05_spans.f k l os lo hi = some os' ∧ os'.length = l.length ∧ (∀ i, lo ≤ i → i < hi → ∃ a b, rd_T32 os' i = ⟨a, b⟩ ∧ Sp (lv l) (sd l) lo hi i a b) ∧ (∀ i, 0 ≤ i → (i < lo ∨ hi ≤ i) → rd_T32 os' i = rd_T32 os i)
  | m, 0, _, _, _, h, _, _, _, _ => absurd h (by omega)
  | m, k + 1, os, lo, hi, h, hm, h0, h1, hl => by
    simp only [changelingref05_spans.f]
    by_cases c : lo ≥ hi
    · rw [if_pos c]
      exact ⟨os, rfl, hl, fun i a b => by omega, fun _ _ _ => rfl⟩
    · rw [if_neg c]
      match m with
      | 0 => omega
      | m + 1 =>
        obtain ⟨a, ea, R⟩ := root_f l hn hc lo hi h0 h1 (by omega) k (by omega)
        have hla := R.la
        have hah := R.ah
        rw [ea]; simp only [Option.bind_some]
        obtain ⟨o1, e1, l1, s1, k1⟩ := spans_f l hn hc m k os lo a (by omega) (by omega) h0 (by omega) hl
        rw [e1]; simp only [Option.bind_some]
        rw [w64_id (by omega) (by omega)]
        obtain ⟨o2, e2, l2, s2, k2⟩ := spans_f l hn hc m k o1 (a + 1) hi (by omega) (by omega) (by omega) h1 l1
        rw [e2]; simp only [Option.bind_some]
        rw [if_pos (by omega), if_pos (by omega)]
        refine ⟨_, rfl, by rw [List.length_set]; exact l2, fun i p q => ?_, fun i p q => ?_⟩
        · rcases Int.lt_trichotomy i a with t | t | t
          · obtain ⟨x, y, e, hs⟩ := s1 i p t
            exact ⟨x, y, by rw [rd_set_other (by omega) (by omega) (by omega), k2 i (by omega) (by omega)]; exact e, Sp.left R p t hs⟩
          · subst t
            exact ⟨lo, hi, rd_set_same (by omega) (by omega), Sp.root R⟩
          · obtain ⟨x, y, e, hs⟩ := s2 i (by omega) q
            exact ⟨x, y, by rw [rd_set_other (by omega) (by omega) (by omega)]; exact e, Sp.right R t q hs⟩
        · rw [rd_set_other (by omega) p (by omega), k2 i p (by omega), k1 i p (by omega)]
theorem Right_f (f : S36) : changelingref05_Right.f f.f0 f.f1 f.f2 f.f3.f0 f.f3.f1 = some (decide (rightR f)) := right_f f
theorem ref_l1 (l : List S36) (hn : l.length ≤ 1024) : ∀ (m : Nat) (k : Nat) (x : Int), m + 6000 < k → l.length - x ≤ m → 0 ≤ x → (∀ j, 0 ≤ j → j < x → ¬ Clash (lv l) (sd l) j) →
    (∃ kk : Int, changelingref05_Resolve.l1 k l x = some ([], kk, 50) ∧ 0 ≤ kk ∧ kk < l.length ∧ Clash (lv l) (sd l) kk ∧ ∀ j, 0 ≤ j → j < kk → ¬ Clash (lv l) (sd l) j) ∨
    (∃ os, changelingref05_Resolve.l1 k l x = some (os, 0, 0) ∧ os.length = l.length ∧ (∀ j : Int, 0 ≤ j → j < l.length → ¬ Clash (lv l) (sd l) j) ∧ ∀ i : Int, 0 ≤ i → i < l.length → ∃ a b, rd_T32 os i = ⟨a, b⟩ ∧ Sp (lv l) (sd l) 0 l.length i a b)
  | m, 0, x, h, _, _, _ => absurd h (by omega)
  | m, k + 1, x, h, hm, h0, hh => by
    simp only [changelingref05_Resolve.l1]
    by_cases c : x < l.length
    · rw [if_pos c]
      match m with
      | 0 => omega
      | m + 1 =>
        obtain ⟨c1, c2⟩ := clashes_f l hn x h0 c k (by omega)
        by_cases cc : Clash (lv l) (sd l) x
        · rw [c1 cc]
          simp only [Option.bind_some, if_true]
          exact Or.inl ⟨x, rfl, h0, c, cc, hh⟩
        · rw [c2 cc]
          simp only [Option.bind_some]
          rw [if_neg (by simp), w64_id (by omega) (by omega)]
          exact ref_l1 l hn m k (x + 1) (by omega) (by omega) (by omega) (fun j p q => by
            by_cases e : j = x
            · subst e; exact cc
            · exact hh j p (by omega))
    · rw [if_neg c, if_pos (by omega), if_pos (by omega)]
      have hc : ∀ j : Int, 0 ≤ j → j < l.length → ¬ Clash (lv l) (sd l) j := fun j p q => hh j p (by omega)
      obtain ⟨os, e, hl, hs, _⟩ := spans_f l hn hc 1024 k (List.replicate ((l.length : Int) : Int).toNat z32) 0 l.length (by omega) (by omega) (by omega) (by omega) (by simp)
      rw [e]
      simp only [Option.bind_some]
      exact Or.inr ⟨os, rfl, hl, hc, hs⟩
theorem ref_l0 (l : List S36) (hn : l.length ≤ 1024) : ∀ (m : Nat) (k : Nat) (x : Int), m + 8000 < k → l.length - x ≤ m → 0 ≤ x → (∀ j, 0 ≤ j → j < x → rightR (rd_T36 l j)) →
    ∃ r, changelingref05_Resolve.l0 k l x = some r ∧ Out l r
  | m, 0, x, h, _, _, _ => absurd h (by omega)
  | m, k + 1, x, h, hm, h0, hh => by
    simp only [changelingref05_Resolve.l0]
    by_cases c : x < l.length
    · rw [if_pos c, if_pos h0, Right_f]
      simp only [Option.bind_some]
      match m with
      | 0 => omega
      | m + 1 =>
        by_cases cc : rightR (rd_T36 l x)
        · rw [if_pos (decide_eq_true cc), w64_id (by omega) (by omega)]
          exact ref_l0 l hn m k (x + 1) (by omega) (by omega) (by omega) (fun j p q => by
            by_cases e : j = x
            · subst e; exact cc
            · exact hh j p (by omega))
        · rw [if_neg (by simp [cc])]
          exact ⟨_, rfl, .bad x hn h0 c cc hh⟩
    · rw [if_neg c]
      have hr : ∀ j : Int, 0 ≤ j → j < l.length → rightR (rd_T36 l j) := fun j p q => hh j p (by omega)
      rcases ref_l1 l hn 1024 k 0 (by omega) (by omega) (by omega) (fun j p q => by omega) with ⟨kk, e, a, b, cl, hno⟩ | ⟨os, e, hl, hno, hs⟩
      · exact ⟨_, e, .clash kk hn hr a b cl hno⟩
      · exact ⟨_, e, .fine os hn hr hno (by omega) hs⟩
theorem ref_out (l : List S36) (k : Nat) (hk : 10000 ≤ k) : ∃ r, changelingref05_Resolve.f k l = some r ∧ Out l r := by
  unfold changelingref05_Resolve.f
  by_cases c : (l.length : Int) > 1024
  · rw [if_pos c]; exact ⟨_, rfl, .long (by omega)⟩
  · rw [if_neg c]
    exact ref_l0 l (by omega) 1024 k 0 (by omega) (by omega) (by omega) (fun j p q => by omega)
theorem ext32 {a b : List S32} (hl : a.length = b.length) (h : ∀ i : Int, 0 ≤ i → i < a.length → rd_T32 a i = rd_T32 b i) : a = b := by
  apply List.ext_getElem hl
  intro i h1 h2
  have := h i (by omega) (by omega)
  simpa [rd_T32, List.getD, h1, h2] using this
theorem Out.uniq {l : List S36} {r r' : List S32 × Int × Int} (h : Out l r) (h' : Out l r') : r = r' := by
  cases h with
  | long c => cases h' with
    | long _ => rfl
    | bad k a _ _ _ _ => omega
    | clash k a _ _ _ _ _ => omega
    | fine os a _ _ _ _ => omega
  | bad k a b c d e => cases h' with
    | long _ => omega
    | bad k' a' b' c' d' e' =>
      have h1 : ¬ k < k' := fun h => d (e' k b h)
      have h2 : ¬ k' < k := fun h => d' (e k' b' h)
      have : k = k' := by omega
      subst this; rfl
    | clash k' a' b' _ _ _ _ => exact absurd (b' k b c) d
    | fine os a' b' _ _ _ => exact absurd (b' k b c) d
  | clash k a b c d e f => cases h' with
    | long _ => omega
    | bad k' a' b' c' d' e' => exact absurd (b k' b' c') d'
    | clash k' a' b' c' d' e' f' =>
      have h1 : ¬ k < k' := fun h => f' k c h e
      have h2 : ¬ k' < k := fun h => f k' c' h e'
      have : k = k' := by omega
      subst this; rfl
    | fine os a' b' c' _ _ => exact absurd e (c' k c d)
  | fine os a b c d e => cases h' with
    | long _ => omega
    | bad k' a' b' c' d' e' => exact absurd (b k' b' c') d'
    | clash k' a' b' c' d' e' f' => exact absurd e' (c k' c' d')
    | fine os' a' b' c' d' e' =>
      have : os = os' := ext32 (by omega) (fun i p q => by
        obtain ⟨x, y, e1, s1⟩ := e i p (by omega)
        obtain ⟨x', y', e2, s2⟩ := e' i p (by omega)
        obtain ⟨rfl, rfl⟩ := s1.uniq s2
        rw [e1, e2])
      subst this; rfl
theorem same_l0 (a : List S32) (ha : a.length ≤ 9223372036854775806) : ∀ (m : Nat) (k : Nat) (x : Int), m < k → a.length - x ≤ m → 0 ≤ x → changelingref05_Same.l0 k a a x = some true
  | m, 0, x, h, _, _ => absurd h (by omega)
  | m, k + 1, x, h, hm, h0 => by
    simp only [changelingref05_Same.l0]
    by_cases c : x < a.length
    · rw [if_pos c, if_pos h0, if_pos c, if_neg (by simp), w64_id (by omega) (by omega)]
      match m with
      | 0 => omega
      | m + 1 => exact same_l0 a ha m k (x + 1) (by omega) (by omega) (by omega)
    · rw [if_neg c]
theorem same_f (a : List S32) (ha : a.length ≤ 1024) (k : Nat) (hk : 2000 ≤ k) : changelingref05_Same.f k a a = some true := by
  unfold changelingref05_Same.f
  rw [if_pos rfl]
  exact same_l0 a (by omega) 1024 k 0 (by omega) (by omega) (by omega)
end Go.Proofs.Ytmiepbnjocojhaa.Pure
