/- The plain law of grouping: what spans a row's operators have, and that the program's way of grouping gives them; no condition but the row's length. -/
import Derived.Test.YtmiepbnjocojhaaRsv
namespace Go.Proofs.Ytmiepbnjocojhaa.Pure
open Go.RowKit Go.Proofs.Ytmiepbnjocojhaa.QN Go.Proofs.YtmiepbnjocojhaaW.PrintWords Go.Proofs.YtmiepbnjocojhaaW.PrintLast
set_option linter.unusedVariables false

/-- What lies to the left within an operator's operand. v: levels; s: sides. -/
def notL (v s : Int → Int) (j i : Int) : Prop := v i < v j ∨ (v j = v i ∧ s j = 1 ∧ s i = 1)
def outL (v s : Int → Int) (j i : Int) : Prop := v j < v i ∨ (v j = v i ∧ s j = 2 ∧ s i = 2)
def notR (v s : Int → Int) (j i : Int) : Prop := v i < v j ∨ (v j = v i ∧ s j = 2 ∧ s i = 2)
def outR (v s : Int → Int) (j i : Int) : Prop := v j < v i ∨ (v j = v i ∧ s j = 1 ∧ s i = 1)
/-- An operator's span, of the operators from lo on, ahead of hi. -/
structure Sp (v s : Int → Int) (lo hi i a b : Int) : Prop where
  la : lo ≤ a
  ai : a ≤ i
  ib : i < b
  bh : b ≤ hi
  nl : ∀ j, a ≤ j → j < i → notL v s j i
  ol : a = lo ∨ outL v s (a - 1) i
  nr : ∀ j, i < j → j < b → notR v s j i
  or_ : b = hi ∨ outR v s b i
theorem Sp.uniq {v s : Int → Int} {lo hi i a b a' b' : Int} (h : Sp v s lo hi i a b) (h' : Sp v s lo hi i a' b') : a = a' ∧ b = b' := by
  have h1 : ∀ {a b a' b' : Int}, Sp v s lo hi i a b → Sp v s lo hi i a' b' → ¬ a < a' := by
    intro a b a' b' h h' hlt
    rcases h'.ol with e | e
    · have := h.la; omega
    · have := h.nl (a' - 1) (by omega) (by have := h'.ai; omega)
      unfold notL at this; unfold outL at e; omega
  have h2 : ∀ {a b a' b' : Int}, Sp v s lo hi i a b → Sp v s lo hi i a' b' → ¬ b < b' := by
    intro a b a' b' h h' hlt
    rcases h.or_ with e | e
    · have := h'.bh; omega
    · have := h'.nr b (by have := h.ib; omega) hlt
      unfold notR at this; unfold outR at e; omega
  have := h1 h h'; have := h1 h' h; have := h2 h h'; have := h2 h' h
  omega
/-- An operator clashes with one ahead of it. -/
def Clash (v s : Int → Int) (k : Int) : Prop := ∃ i, 0 ≤ i ∧ i < k ∧ v i = v k ∧ (∀ j, i < j → j < k → v i < v j) ∧ ¬ (s i = 1 ∧ s k = 1) ∧ ¬ (s i = 2 ∧ s k = 2)
def topOf : List Int → Int
  | [] => -1
  | t :: _ => t
/-- The operators that wait, and the spans between them. -/
def Chain (v s : Int → Int) : List Int → List S32 → Int → Prop
  | [], rd, hi => rd = [⟨0, hi⟩]
  | t :: rs, rd, hi => ∃ rd', rd = ⟨t + 1, hi⟩ :: rd' ∧ 0 ≤ t ∧ t < hi ∧ (∀ j, topOf rs < j → j < t → notL v s j t) ∧ (rs = [] ∨ outL v s (topOf rs) t) ∧ Chain v s rs rd' t
theorem Chain.top {v s : Int → Int} {rs : List Int} {rd : List S32} {hi : Int} (h : Chain v s rs rd hi) (h0 : 0 ≤ hi) : -1 ≤ topOf rs ∧ topOf rs < hi := by
  cases rs with
  | nil => simp [topOf]; omega
  | cons t rs => obtain ⟨_, _, h1, h2, _⟩ := h; simp [topOf]; omega
theorem Chain.raise {v s : Int → Int} {rs : List Int} {rd : List S32} {hi hi' : Int} (h : Chain v s rs rd hi) (hh : hi ≤ hi') :
    ∃ x rd2, rd = x :: rd2 ∧ x.f0 = topOf rs + 1 ∧ x.f1 = hi ∧ Chain v s rs (⟨x.f0, hi'⟩ :: rd2) hi' := by
  cases rs with
  | nil =>
    have h1 : rd = [⟨0, hi⟩] := h
    subst h1
    exact ⟨⟨0, hi⟩, [], rfl, rfl, rfl, rfl⟩
  | cons t rs =>
    obtain ⟨rd', rfl, h1, h2, h3, h4, h5⟩ := h
    exact ⟨⟨t + 1, hi⟩, rd', rfl, rfl, rfl, rd', rfl, h1, by omega, h3, h4, h5⟩
theorem Chain.low {v s : Int → Int} : ∀ {rs : List Int} {rd : List S32} {hi t : Int}, Chain v s (t :: rs) rd hi → ∀ t' ∈ rs, outL v s t' t
  | [], _, _, _, _, t', h => by simp at h
  | u :: rs, rd, hi, t, h, t', ht => by
    obtain ⟨rd', rfl, h1, h2, h3, h4, h5⟩ := h
    have hu : outL v s u t := by
      rcases h4 with h4 | h4
      · exact absurd h4 (by simp)
      · exact h4
    rcases List.mem_cons.mp ht with rfl | ht
    · exact hu
    · have := Chain.low h5 t' ht
      unfold outL at *; omega
/-- What holds behind the first k operators. -/
structure Mid (v s : Int → Int) (n k : Int) (rs : List Int) (rd os : List S32) : Prop where
  ch : Chain v s rs rd k
  nr : ∀ t ∈ rs, ∀ j, t < j → j < k → notR v s j t
  fin : ∀ i, 0 ≤ i → i < k → i ∉ rs → ∃ a b, rd_T32 os i = ⟨a, b⟩ ∧ Sp v s 0 n i a b
  ol : (os.length : Int) = n
  k0 : 0 ≤ k
  kn : k ≤ n
theorem rd_set_same {os : List S32} {t : Int} {x : S32} (h0 : 0 ≤ t) (h1 : t < os.length) : rd_T32 (os.set t.toNat x) t = x := by
  unfold rd_T32
  rw [List.getD_eq_getElem?_getD, List.getElem?_set_self (by omega)]; rfl
theorem rd_set_other {os : List S32} {t i : Int} {x : S32} (h0 : 0 ≤ t) (h1 : 0 ≤ i) (h : i ≠ t) : rd_T32 (os.set t.toNat x) i = rd_T32 os i := by
  unfold rd_T32
  rw [List.getD_eq_getElem?_getD, List.getElem?_set_ne (by omega), ← List.getD_eq_getElem?_getD]
/-- The last operator that waits is grouped, up to hi: hi = k, or the end. -/
theorem Mid.pop {v s : Int → Int} {n k t : Int} {rs : List Int} {rd os : List S32} (h : Mid v s n k (t :: rs) rd os) (hp : k = n ∨ outR v s k t) :
    ∃ y x rd2, rd = y :: x :: rd2 ∧ Mid v s n k rs (⟨x.f0, y.f1⟩ :: rd2) (os.set t.toNat ⟨x.f0, y.f1⟩) ∧ 0 ≤ t ∧ t < k ∧ (∀ j, topOf rs < j → j < t → notL v s j t) := by
  obtain ⟨rd', rfl, h1, h2, h3, h4, h5⟩ := h.ch
  obtain ⟨x, rd2, rfl, hx0, hx1, hC⟩ := h5.raise (hi' := k) (by omega)
  have htop := h5.top h1
  refine ⟨⟨t + 1, k⟩, x, rd2, rfl, ⟨hC, fun u hu => h.nr u (List.mem_cons_of_mem _ hu), fun i hi0 hik hir => ?_, by rw [List.length_set]; exact h.ol, h.k0, h.kn⟩, h1, h2, h3⟩
  by_cases hit : i = t
  · subst hit
    refine ⟨x.f0, k, rd_set_same h1 (by have := h.ol; have := h.kn; omega), ⟨by omega, by omega, h2, h.kn, fun j ha hb => h3 j (by omega) hb, ?_, h.nr i (List.mem_cons_self ..), hp⟩⟩
    rcases h4 with rfl | h4
    · left; rw [hx0]; simp [topOf]
    · right; rw [hx0]; have e : topOf rs + 1 - 1 = topOf rs := by omega
      rw [e]; exact h4
  · obtain ⟨a, b, e, hsp⟩ := h.fin i hi0 hik (by simp [hit, hir])
    exact ⟨a, b, by rw [rd_set_other h1 hi0 hit]; exact e, hsp⟩
theorem takes_spec {l : List S36} {v s : Int → Int} (hv : ∀ j, (rd_T36 l j).f2 = v j) (hs : ∀ j, (rd_T36 l j).f1 = s j) {n k : Int} (hk : k < n) : ∀ (rs : List Int) (rd os : List S32), Mid v s n k rs rd os →
    (∀ j, topOf rs < j → j < k → notL v s j k) →
    ((takesR (rd_T36 l k) l k rs rd os).1 = true → Mid v s n (k + 1) (takesR (rd_T36 l k) l k rs rd os).2.1 (takesR (rd_T36 l k) l k rs rd os).2.2.1 (takesR (rd_T36 l k) l k rs rd os).2.2.2 ∧ topOf (takesR (rd_T36 l k) l k rs rd os).2.1 = k ∧ ¬ Clash v s k) ∧
    ((takesR (rd_T36 l k) l k rs rd os).1 = false → Clash v s k)
  | [], rd, os, h, he => by
    simp only [takesR]
    refine ⟨fun _ => ⟨⟨?_, ?_, ?_, h.ol, by have := h.k0; omega, by omega⟩, rfl, ?_⟩, fun h => absurd h (by simp)⟩
    · have h1 : rd = [⟨0, k⟩] := h.ch
      exact ⟨rd, rfl, h.k0, by omega, he, Or.inl rfl, h1⟩
    · intro t ht j h1 h2
      simp at ht; omega
    · intro i h0 h1 h2
      simp at h2
      exact h.fin i h0 (by omega) (by simp)
    · rintro ⟨i, h0, h1, h2, h3, h4, h5⟩
      have := he i (by simp [topOf]; omega) h1
      unfold notL at this; omega
  | t :: rs, rd, os, h, he => by
    have hch := h.ch
    by_cases c1 : (rd_T36 l k).f2 < (rd_T36 l t).f2 ∨ ((rd_T36 l k).f2 = (rd_T36 l t).f2 ∧ (rd_T36 l t).f1 = 1 ∧ (rd_T36 l k).f1 = 1)
    · have hp : outR v s k t := by
        unfold outR; rw [hv, hv, hs, hs] at c1; omega
      obtain ⟨y, x, rd2, rfl, hM, ht0, htk, h3⟩ := h.pop (Or.inr hp)
      have := takes_spec hv hs hk rs _ _ hM (by
        intro j h1 h2
        by_cases hjt : t < j
        · exact he j hjt h2
        · by_cases e : j = t
          · subst e; unfold outR at hp; unfold notL; omega
          · have := h3 j h1 (by omega)
            unfold outR at hp; unfold notL at *; omega)
      simp only [takesR, if_pos c1]
      exact this
    · by_cases c2 : (rd_T36 l t).f2 < (rd_T36 l k).f2 ∨ ((rd_T36 l t).f1 = 2 ∧ (rd_T36 l k).f1 = 2)
      · simp only [takesR, if_neg c1, if_pos c2]
        have ho : outL v s t k := by
          rw [hv, hv, hs, hs] at c1 c2
          unfold outL; omega
        obtain ⟨rd', rfl, h1, h2, h3, h4, h5⟩ := hch
        refine ⟨fun _ => ⟨⟨?_, ?_, ?_, h.ol, by have := h.k0; omega, by omega⟩, rfl, ?_⟩, fun h => absurd h (by simp)⟩
        · exact ⟨_, rfl, h.k0, by omega, he, Or.inr ho, rd', rfl, h1, h2, h3, h4, h5⟩
        · intro u hu j hj1 hj2
          rcases List.mem_cons.mp hu with rfl | hu2
          · omega
          · by_cases hjk : j = k
            · have : outL v s u k := by
                rcases List.mem_cons.mp hu2 with e | hu3
                · rw [e]; exact ho
                · have := Chain.low h.ch u hu3
                  unfold outL at *; omega
              rw [hjk]
              unfold outL at this; unfold notR; omega
            · exact h.nr u hu2 j hj1 (by omega)
        · intro i h0 h1 h2
          simp at h2
          exact h.fin i h0 (by omega) (by simp; exact ⟨h2.2.1, h2.2.2⟩)
        · rintro ⟨i, h0, h1', h2', h3', h4', h5'⟩
          by_cases e : t < i
          · have := he i e h1'
            unfold notL at this; omega
          · by_cases e2 : i = t
            · subst e2; unfold outL at ho; omega
            · have := h3' t (by omega) (by omega)
              unfold outL at ho; omega
      · simp only [takesR, if_neg c1, if_neg c2]
        refine ⟨fun h => absurd h (by simp), fun _ => ?_⟩
        rw [hv, hv, hs, hs] at c1 c2
        obtain ⟨rd', rfl, h1, h2, h3, h4, h5⟩ := hch
        refine ⟨t, h1, h2, by omega, fun j hj1 hj2 => ?_, by omega, by omega⟩
        have a1 := he j hj1 hj2
        have a2 := h.nr t (List.mem_cons_self ..) j hj1 hj2
        unfold notL at a1; unfold notR at a2; omega
theorem redAll_spec {v s : Int → Int} {n : Int} : ∀ (rs : List Int) (rd os : List S32), Mid v s n n rs rd os → ((redAll rs rd os).length : Int) = n ∧ ∀ i, 0 ≤ i → i < n → ∃ a b, rd_T32 (redAll rs rd os) i = ⟨a, b⟩ ∧ Sp v s 0 n i a b
  | [], rd, os, h => by
    simp only [redAll]
    exact ⟨h.ol, fun i h0 h1 => h.fin i h0 h1 (by simp)⟩
  | t :: rs, rd, os, h => by
    obtain ⟨y, x, rd2, rfl, hM, _⟩ := h.pop (Or.inl rfl)
    simp only [redAll]
    exact redAll_spec rs _ _ hM
theorem takeFrom_spec {l : List S36} {v s : Int → Int} (hv : ∀ j, (rd_T36 l j).f2 = v j) (hs : ∀ j, (rd_T36 l j).f1 = s j) : ∀ (m i : Nat) (rs : List Int) (rd os : List S32), i + m = l.length → Mid v s l.length i rs rd os → topOf rs = (i : Int) - 1 → (∀ j : Int, 0 ≤ j → j < i → ¬ Clash v s j) →
    (∃ k : Int, takeFrom l (l.drop i) i rs rd os = .inl k ∧ 0 ≤ k ∧ k < l.length ∧ Clash v s k ∧ ∀ j, 0 ≤ j → j < k → ¬ Clash v s j) ∨
    (∃ rs' rd' os', takeFrom l (l.drop i) i rs rd os = .inr (rs', rd', os') ∧ Mid v s l.length l.length rs' rd' os' ∧ ∀ j : Int, 0 ≤ j → j < l.length → ¬ Clash v s j)
  | 0, i, rs, rd, os, him, h, ht, hn => by
    right
    have e : i = l.length := by omega
    subst e
    rw [List.drop_eq_nil_of_le (Nat.le_refl _)]
    exact ⟨rs, rd, os, rfl, h, hn⟩
  | m + 1, i, rs, rd, os, him, h, ht, hn => by
    rw [drop_S36 l i (by omega)]
    simp only [takeFrom]
    have hk : (i : Int) < l.length := by omega
    obtain ⟨h1, h2⟩ := takes_spec hv hs hk rs rd os h (by intro j a b; omega)
    by_cases c : (takesR (rd_T36 l (i : Int)) l (i : Int) rs rd os).1 = true
    · rw [if_pos c]
      obtain ⟨hM, htop, hcl⟩ := h1 c
      have := takeFrom_spec hv hs m (i + 1) _ _ _ (by omega) (by push_cast; exact hM) (by rw [htop]; push_cast; omega) (by
        intro j a b
        by_cases e : j = i
        · subst e; exact hcl
        · exact hn j a (by push_cast at b; omega))
      push_cast at this
      exact this
    · rw [if_neg c]
      left
      exact ⟨i, rfl, by omega, hk, h2 (by simpa using c), hn⟩
theorem badFrom_spec (l : List S36) : ∀ (m i : Nat), i + m = l.length → (∀ j : Int, 0 ≤ j → j < i → rightR (rd_T36 l j)) →
    (∃ k : Int, badFrom (l.drop i) i = some k ∧ 0 ≤ k ∧ k < l.length ∧ ¬ rightR (rd_T36 l k) ∧ ∀ j, 0 ≤ j → j < k → rightR (rd_T36 l j)) ∨
    (badFrom (l.drop i) i = none ∧ ∀ j : Int, 0 ≤ j → j < l.length → rightR (rd_T36 l j))
  | 0, i, him, h => by
    right
    rw [List.drop_eq_nil_of_le (by omega)]
    exact ⟨rfl, fun j a b => h j a (by omega)⟩
  | m + 1, i, him, h => by
    rw [drop_S36 l i (by omega)]
    simp only [badFrom]
    by_cases c : rightR (rd_T36 l (i : Int))
    · rw [if_pos c]
      have := badFrom_spec l m (i + 1) (by omega) (by
        intro j a b
        by_cases e : j = i
        · subst e; exact c
        · exact h j a (by push_cast at b; omega))
      push_cast at this
      exact this
    · rw [if_neg c]
      left
      exact ⟨i, rfl, by omega, by omega, c, h⟩
abbrev lv (l : List S36) : Int → Int := fun j => (rd_T36 l j).f2
abbrev sd (l : List S36) : Int → Int := fun j => (rd_T36 l j).f1
/-- What Resolve gives. -/
inductive Out (l : List S36) : List S32 × Int × Int → Prop
  | long : 1024 < l.length → Out l ([], 0, 2)
  | bad (k : Int) : l.length ≤ 1024 → 0 ≤ k → k < l.length → ¬ rightR (rd_T36 l k) → (∀ j : Int, 0 ≤ j → j < k → rightR (rd_T36 l j)) → Out l ([], k, 1)
  | clash (k : Int) : l.length ≤ 1024 → (∀ j : Int, 0 ≤ j → j < l.length → rightR (rd_T36 l j)) → 0 ≤ k → k < l.length → Clash (lv l) (sd l) k → (∀ j : Int, 0 ≤ j → j < k → ¬ Clash (lv l) (sd l) j) → Out l ([], k, 50)
  | fine (os : List S32) : l.length ≤ 1024 → (∀ j : Int, 0 ≤ j → j < l.length → rightR (rd_T36 l j)) → (∀ j : Int, 0 ≤ j → j < l.length → ¬ Clash (lv l) (sd l) j) → (os.length : Int) = l.length →
      (∀ i : Int, 0 ≤ i → i < l.length → ∃ a b, rd_T32 os i = ⟨a, b⟩ ∧ Sp (lv l) (sd l) 0 l.length i a b) → Out l (os, 0, 0)
theorem resolve_out (l : List S36) : ∃ r, fix_Resolve.f l = some r ∧ Out l r := by
  unfold fix_Resolve.f
  by_cases c : (l.length : Int) > 1024
  · rw [if_pos c]; exact ⟨_, rfl, .long (by omega)⟩
  · rw [if_neg c]
    have hb := badFrom_spec l l.length 0 (by omega) (by intro j a b; omega)
    simp only [List.drop_zero, Int.natCast_zero] at hb
    rcases hb with ⟨k, e, h0, h1, h2, h3⟩ | ⟨e, hr⟩
    · rw [e]; exact ⟨_, rfl, .bad k (by omega) h0 h1 h2 h3⟩
    · rw [e]
      have ht := takeFrom_spec (l := l) (v := lv l) (s := sd l) (fun _ => rfl) (fun _ => rfl) l.length 0 [] [⟨0, 0⟩] (List.replicate l.length ⟨0, 0⟩) (by omega)
        ⟨rfl, by simp, by intro i a b; omega, by simp, by omega, by omega⟩ (by simp [topOf]) (by intro j a b; omega)
      simp only [List.drop_zero, Int.natCast_zero] at ht
      rcases ht with ⟨k, e, h0, h1, h2, h3⟩ | ⟨rs, rd, os, e, hM, hn⟩
      · rw [e]; exact ⟨_, rfl, .clash k (by omega) hr h0 h1 h2 h3⟩
      · rw [e]
        obtain ⟨hlen, hsp⟩ := redAll_spec rs rd os hM
        exact ⟨_, rfl, .fine _ (by omega) hr hn hlen hsp⟩
end Go.Proofs.Ytmiepbnjocojhaa.Pure
