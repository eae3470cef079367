/- The plain statement of FixSides: operators of one level; no condition. -/
import Derived.Test.YtmiepbnjocojhaaQN8
import Derived.Test.YtmiepbnjocojhaaPureFixShape
namespace Go.Proofs.Ytmiepbnjocojhaa.Pure
open Go.RowKit Go.Proofs.Ytmiepbnjocojhaa.QN Go.Proofs.YtmiepbnjocojhaaW.PrintWords Go.Proofs.YtmiepbnjocojhaaW.PrintLast
theorem rd_rep {n : Nat} {f : S36} {j : Int} (h0 : 0 ≤ j) (h1 : j < n) : rd_T36 (List.replicate n f) j = f := by
  unfold rd_T36
  rw [List.getD_eq_getElem?_getD, List.getElem?_replicate, if_pos (by omega)]; rfl
theorem Sides_build (x2 : Bool) (n : Int) (hn : n ≤ 400) (f : S36) : ∀ (m k : Nat) (l : List S36) (i : Int), m < k → n - i ≤ m → 0 ≤ i → i ≤ n → l = List.replicate i.toNat f →
    ∃ k', k ≤ k' + m + 1 ∧ changelinglaw05_FixSides.l0 k n x2 l i f.f0 f.f1 f.f2 f.f3.f0 f.f3.f1 = (fix_Resolve.f (List.replicate n.toNat f)).bind fun r => (if n > 0 then ((changelingref05_Right.f f.f0 f.f1 f.f2 f.f3.f0 f.f3.f1).bind fun t => (changelinglaw05_FixSides.j3 k' n x2 r.1 r.2.1 r.2.2 (!t))) else (changelinglaw05_FixSides.j3 k' n x2 r.1 r.2.1 r.2.2 false))
  | m, 0, l, i, h, _, _, _, _ => absurd h (by omega)
  | m, k + 1, l, i, h, hm, h0, h1, he => by
    by_cases c : i < n
    · match m with
      | 0 => omega
      | m + 1 =>
        obtain ⟨k', hk', e⟩ := Sides_build x2 n hn f m k (l ++ [f]) (i + 1) (by omega) (by omega) (by omega) (by omega) (by
          rw [he, show (i + 1).toNat = i.toNat + 1 by omega, List.replicate_succ'])
        refine ⟨k', by omega, ?_⟩
        rw [changelinglaw05_FixSides.l0, if_pos c, if_pos (by rw [he, List.length_replicate]; omega), w64_id (by omega) (by omega)]
        exact e
    · have : i = n := by omega
      subst this
      refine ⟨k, by omega, ?_⟩
      rw [changelinglaw05_FixSides.l0, if_neg c, he]
theorem Sides_l1 {n : Int} {x2 : Bool} {os : List S32} (hn : n ≤ 400) (hl : (os.length : Int) = n) (hs : ∀ i, 0 ≤ i → i < n → rd_T32 os i = if x2 = true then ⟨0, i + 1⟩ else ⟨i, n⟩) : ∀ (m k : Nat) (i : Int), m + 200 < k → n - i ≤ m → 0 ≤ i → changelinglaw05_FixSides.l1 k n x2 os i = some true
  | m, 0, i, h, _, _ => absurd h (by omega)
  | m, k + 1, i, h, hm, h0 => by
    rw [changelinglaw05_FixSides.l1]
    by_cases c : i < n
    · have := hs i h0 c
      match m with
      | 0 => omega
      | m + 1 =>
        have ih := Sides_l1 hn hl hs m k (i + 1) (by omega) (by omega) (by omega)
        rw [if_pos c, this, w64_id (by omega) (by omega)]
        cases x2 with
        | true => simp only [if_true]; rw [if_pos h0, if_pos (by omega)]; exact ih
        | false =>
          rw [if_neg (by simp), if_pos h0, if_pos (by omega)]
          simp only [Bool.false_eq_true, if_false, if_true]; exact ih
    · rw [if_neg c, known_at (by omega)]; rfl
theorem Sides_sp {n : Nat} {f : S36} {s : Int} (hs : f.f1 = s) (h12 : s = 1 ∨ s = 2) {i : Int} (h0 : 0 ≤ i) (h1 : i < n) :
    Sp (lv (List.replicate n f)) (sd (List.replicate n f)) 0 n i (if s = 1 then 0 else i) (if s = 1 then i + 1 else n) := by
  have hl : ∀ j : Int, 0 ≤ j → j < n → lv (List.replicate n f) j = f.f2 := fun j a b => by simp only [lv]; rw [rd_rep a b]
  have hd : ∀ j : Int, 0 ≤ j → j < n → sd (List.replicate n f) j = s := fun j a b => by simp only [sd]; rw [rd_rep a b]; exact hs
  rcases h12 with e | e
  · subst e
    rw [if_pos rfl, if_pos rfl]
    refine ⟨by omega, h0, by omega, by omega, fun j a b => ?_, Or.inl rfl, fun j a b => by omega, ?_⟩
    · right; exact ⟨by rw [hl j a (by omega), hl i h0 h1], hd j a (by omega), hd i h0 h1⟩
    · by_cases c : i + 1 = n
      · exact Or.inl c
      · right; right; exact ⟨by rw [hl _ (by omega) (by omega), hl i h0 h1], hd _ (by omega) (by omega), hd i h0 h1⟩
  · subst e
    rw [if_neg (by omega), if_neg (by omega)]
    refine ⟨by omega, by omega, by omega, by omega, fun j a b => by omega, ?_, fun j a b => ?_, Or.inl rfl⟩
    · by_cases c : i = 0
      · exact Or.inl c
      · right; right; exact ⟨by rw [hl _ (by omega) (by omega), hl i h0 h1], hd _ (by omega) (by omega), hd i h0 h1⟩
    · right; exact ⟨by rw [hl j (by omega) b, hl i h0 h1], hd j (by omega) b, hd i h0 h1⟩
theorem Sides_rest (n : Nat) (hn : n ≤ 400) (x2 : Bool) (f : S36) (hs : f.f1 = if x2 = true then 1 else 2) (k : Nat) (hk : 2000 ≤ k) :
    ((fix_Resolve.f (List.replicate n f)).bind fun r => (if (n : Int) > 0 then ((changelingref05_Right.f f.f0 f.f1 f.f2 f.f3.f0 f.f3.f1).bind fun t => (changelinglaw05_FixSides.j3 k n x2 r.1 r.2.1 r.2.2 (!t))) else (changelinglaw05_FixSides.j3 k n x2 r.1 r.2.1 r.2.2 false))) = some true := by
  obtain ⟨r, e, h⟩ := resolve_out (List.replicate n f)
  obtain ⟨k, rfl⟩ : ∃ q, k = q + 2 := ⟨k - 2, by omega⟩
  have h12 : f.f1 = 1 ∨ f.f1 = 2 := by cases x2 <;> simp at hs <;> omega
  have good : (n = 0 ∨ rightR f) → r.2.2 = 0 ∧ Fine (List.replicate n f) r.1 := by
    intro hr
    cases h with
    | long c => rw [List.length_replicate] at c; omega
    | bad j a b c d _ => rw [List.length_replicate] at c; rw [rd_rep b c] at d; rcases hr with hr | hr; omega; exact absurd hr d
    | clash j a b c d hc _ =>
      rw [List.length_replicate] at d
      obtain ⟨i, i0, i1, _, _, i4, i5⟩ := hc
      simp only [sd] at i4 i5
      rw [rd_rep i0 (by omega), rd_rep c d] at i4 i5
      omega
    | fine os a b c d e9 => exact ⟨rfl, a, b, c, d, e9⟩
  have fin : (n = 0 ∨ rightR f) → changelinglaw05_FixSides.j3 (k + 2) n x2 r.1 r.2.1 r.2.2 false = some true := by
    intro hr
    obtain ⟨g0, hF⟩ := good hr
    have hl := hF.hl
    rw [List.length_replicate] at hl
    rw [changelinglaw05_FixSides.j3, if_neg (by simp), if_pos g0, changelinglaw05_FixSides.j4, if_neg (by simp [hl])]
    refine Sides_l1 (by omega) hl (fun i a b => ?_) 400 k 0 (by omega) (by omega) (by omega)
    have hsp := Sides_sp (n := n) rfl h12 a b
    have := hF.at_ (i := i) (a := if f.f1 = 1 then 0 else i) (b := if f.f1 = 1 then i + 1 else n) (by rw [List.length_replicate]; exact hsp)
    rw [this]
    cases x2 with
    | true => simp at hs; simp [hs]
    | false => simp at hs; simp [hs]
  rw [e]; simp only [Option.bind_some]
  by_cases c : (n : Int) > 0
  · rw [if_pos c, Right_f]
    simp only [Option.bind_some]
    by_cases cr : rightR f
    · rw [decide_eq_true cr]; exact fin (Or.inr cr)
    · rw [decide_eq_false cr]
      have h0 : rd_T36 (List.replicate n f) 0 = f := rd_rep (by omega) c
      have hlen : (0 : Int) < (List.replicate n f).length := by rw [List.length_replicate]; exact c
      cases h with
      | long c => rw [List.length_replicate] at c; omega
      | bad j a b c d e' =>
        have : j = 0 := by
          apply Classical.byContradiction
          intro hne
          have := e' 0 (by omega) (by omega)
          rw [h0] at this; exact cr this
        subst this
        rw [changelinglaw05_FixSides.j3]
        simp only [Bool.not_false, if_true, List.length_nil, Int.natCast_zero]
        rw [known_at (by omega)]; rfl
      | clash j a b c d hc _ => have := b 0 (by omega) hlen; rw [h0] at this; exact absurd this cr
      | fine os a b c d e => have := b 0 (by omega) hlen; rw [h0] at this; exact absurd this cr
  · rw [if_neg c]; exact fin (Or.inl (by omega))
theorem FixSides : changelinglaw05_FixSides.Pure := by
  intro a0 a1 a2 w0 w1
  refine ⟨10000, ?_⟩
  generalize hk : (10000 : Nat) = K
  obtain ⟨k, rfl⟩ : ∃ k, K = k + 2 := ⟨K - 2, by omega⟩
  unfold changelinglaw05_FixSides.f
  have out : changelinglaw05_FixSides.j0 (k + 2) a0 a1 a2 true = some true := by
    rw [changelinglaw05_FixSides.j0, if_pos rfl, known_at (by omega)]; rfl
  by_cases c : a0 < 0
  · rw [if_pos c]; exact out
  · rw [if_neg c]
    by_cases c2 : a0 > 400
    · rw [decide_eq_true c2]; exact out
    · rw [decide_eq_false c2, changelinglaw05_FixSides.j0, if_neg (by simp)]
      obtain ⟨n, rfl⟩ := Int.eq_ofNat_of_zero_le (by omega : 0 ≤ a0)
      have go : ∀ s : Int, s = (if a2 = true then 1 else 2) → changelinglaw05_FixSides.j1 (k + 1) n a2 (⟨#[]⟩ : ByteArray) s a1 0 0 = some true := by
        intro s hs
        rw [changelinglaw05_FixSides.j1]
        obtain ⟨k', hk', e⟩ := Sides_build a2 n (by omega) ⟨⟨#[]⟩, s, a1, ⟨0, 0⟩⟩ 400 k [] 0 (by omega) (by omega) (by omega) (by omega) rfl
        have e2 : changelinglaw05_FixSides.l0 k n a2 [] 0 (⟨#[]⟩ : ByteArray) s a1 0 0 = _ := e
        rw [e2, Int.toNat_natCast]
        exact Sides_rest n (by omega) a2 ⟨⟨#[]⟩, s, a1, ⟨0, 0⟩⟩ hs k' (by omega)
      by_cases c3 : a2 = true
      · rw [if_pos c3]; exact go 1 (by rw [if_pos c3])
      · rw [if_neg c3]; exact go 2 (by rw [if_neg c3])
end Go.Proofs.Ytmiepbnjocojhaa.Pure
