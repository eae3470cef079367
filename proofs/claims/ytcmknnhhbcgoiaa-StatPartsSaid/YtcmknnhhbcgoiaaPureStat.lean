/- The plain law of tables: what Right, Merge and their document's counterparts compute; merged tables are the same on both sides, in any order. -/
import Derived.Test.YtcmknnhhbcgoiaaKnd
import Derived.Test.YtcmknnhhbcgoiaaQN1
import Derived.Test.YtcmknnhhbcgoiaaQN2
namespace Go.Proofs.Ytcmknnhhbcgoiaa.Pure
open Go.RowKit Go.Proofs.Ytcmknnhhbcgoiaa.QN Go.Proofs.YtcmknnhhbcgoiaaW.PrintWords Go.Proofs.YtcmknnhhbcgoiaaW.PrintLast
set_option linter.unusedVariables false
set_option linter.unusedSimpArgs false
theorem w64_id {n : Int} (h : -9223372036854775808 ≤ n) (h2 : n ≤ 9223372036854775807) : wrap64 n = n := by unfold wrap64; omega
theorem drop_T42 (l : List S42) (m : Nat) (h : m < l.length) : l.drop m = rd_T42 l (m : Int) :: l.drop (m + 1) := by
  have e : rd_T42 l (m : Int) = l[m] := by simp [rd_T42, h]
  rw [e]; exact List.drop_eq_getElem_cons h
/-! ### a row that may be -/
def fitsB (r : S42) : Bool := decide (0 ≤ r.f1 ∧ r.f1 ≤ 1073741824 ∧ 0 ≤ r.f2 ∧ r.f2 ≤ 1073741824 ∧ 0 ≤ r.f3 ∧ r.f3 ≤ 1073741824 ∧ 0 ≤ r.f4 ∧ r.f4 ≤ 1073741824 ∧ 1 ≤ r.f0 ∧ r.f0 ≤ 14 ∧ 0 < r.f1 + r.f2 + r.f3 + r.f4)
theorem fits_step (a b c d : Int) (k i : Nat) (hi : i < 4) (y0 y1 y2 y3 y4 : Int) : stat_fits.l0 (k + 1) [a, b, c, d] 4 (i : Int) y0 y1 y2 y3 y4 = if rd [a, b, c, d] (i : Int) < 0 then some false else if rd [a, b, c, d] (i : Int) > 1073741824 then some false else stat_fits.l0 k [a, b, c, d] 4 ((i + 1 : Nat) : Int) y0 y1 y2 y3 y4 := by
  have h1 : ((i : Int) < 4) := by omega
  have h3 : wrap64 ((i : Int) + 1) = ((i + 1 : Nat) : Int) := by rw [w64_id (by omega) (by omega)]; push_cast; rfl
  simp only [stat_fits.l0]
  rw [if_pos h1, if_pos (by omega), if_pos (by simpa using h1), h3]
theorem fits_f (r : S42) : ∀ (k : Nat), 6 ≤ k → stat_fits.f k r.f0 r.f1 r.f2 r.f3 r.f4 = some (fitsB r)
  | k + 6, _ => by
    unfold stat_fits.f stat_numbers.f
    simp only [Option.bind]
    show stat_fits.l0 (k + 6) [r.f1, r.f2, r.f3, r.f4] 4 ((0 : Nat) : Int) r.f0 r.f1 r.f2 r.f3 r.f4 = _
    rw [fits_step _ _ _ _ _ 0 (by omega), fits_step _ _ _ _ _ 1 (by omega), fits_step _ _ _ _ _ 2 (by omega), fits_step _ _ _ _ _ 3 (by omega)]
    show (if r.f1 < 0 then some false else if r.f1 > 1073741824 then some false else if r.f2 < 0 then some false else if r.f2 > 1073741824 then some false else if r.f3 < 0 then some false else if r.f3 > 1073741824 then some false else if r.f4 < 0 then some false else if r.f4 > 1073741824 then some false else stat_fits.l0 (k + 1 + 1) [r.f1, r.f2, r.f3, r.f4] 4 4 r.f0 r.f1 r.f2 r.f3 r.f4) = _
    have e : stat_fits.l0 (k + 1 + 1) [r.f1, r.f2, r.f3, r.f4] 4 4 r.f0 r.f1 r.f2 r.f3 r.f4 = if r.f0 ≥ 1 then (if r.f0 ≤ 14 then some (decide (wrap64 ((wrap64 ((wrap64 (r.f1 + r.f2)) + r.f3)) + r.f4) > 0)) else some false) else some false := by
      simp only [stat_fits.l0, stat_total.f]
      rw [if_neg (by decide)]
      rfl
    rw [e]
    unfold fitsB
    by_cases c1 : r.f1 < 0
    · rw [if_pos c1]; congr 1; symm; exact decide_eq_false (by omega)
    rw [if_neg c1]
    by_cases c2 : r.f1 > 1073741824
    · rw [if_pos c2]; congr 1; symm; exact decide_eq_false (by omega)
    rw [if_neg c2]
    by_cases c3 : r.f2 < 0
    · rw [if_pos c3]; congr 1; symm; exact decide_eq_false (by omega)
    rw [if_neg c3]
    by_cases c4 : r.f2 > 1073741824
    · rw [if_pos c4]; congr 1; symm; exact decide_eq_false (by omega)
    rw [if_neg c4]
    by_cases c5 : r.f3 < 0
    · rw [if_pos c5]; congr 1; symm; exact decide_eq_false (by omega)
    rw [if_neg c5]
    by_cases c6 : r.f3 > 1073741824
    · rw [if_pos c6]; congr 1; symm; exact decide_eq_false (by omega)
    rw [if_neg c6]
    by_cases c7 : r.f4 < 0
    · rw [if_pos c7]; congr 1; symm; exact decide_eq_false (by omega)
    rw [if_neg c7]
    by_cases c8 : r.f4 > 1073741824
    · rw [if_pos c8]; congr 1; symm; exact decide_eq_false (by omega)
    rw [if_neg c8]
    rw [w64_id (n := r.f1 + r.f2) (by omega) (by omega), w64_id (n := r.f1 + r.f2 + r.f3) (by omega) (by omega), w64_id (n := r.f1 + r.f2 + r.f3 + r.f4) (by omega) (by omega)]
    by_cases c9 : r.f0 ≥ 1
    · rw [if_pos c9]
      by_cases c10 : r.f0 ≤ 14
      · rw [if_pos c10]; congr 1; exact decide_eq_decide.2 ⟨fun h => by omega, fun h => by omega⟩
      · rw [if_neg c10]; congr 1; symm; exact decide_eq_false (by omega)
    · rw [if_neg c9]; congr 1; symm; exact decide_eq_false (by omega)
/-! ### a table that may be -/
def rightB : Int → List S42 → Bool
  | _, [] => true
  | lo, r :: l => fitsB r && decide (lo < r.f0) && rightB r.f0 l
def opBefore (l : List S42) (i : Nat) : Int := if i = 0 then 0 else (rd_T42 l ((i : Int) - 1)).f0
theorem opBefore_succ (l : List S42) (i : Nat) : opBefore l (i + 1) = (rd_T42 l (i : Int)).f0 := by
  unfold opBefore
  rw [if_neg (by omega)]
  congr 2
  push_cast
  omega
theorem right_l0 (l : List S42) (hl : l.length ≤ 4398046511104) : ∀ (m k i : Nat), i + m = l.length → m + 12 ≤ k → stat_Right.l0 k l l (l.length : Int) (i : Int) = some (rightB (opBefore l i) (l.drop i))
  | m, 0, i, _, h => absurd h (by omega)
  | 0, k + 1, i, h, hk => by
    simp only [stat_Right.l0]
    rw [if_neg (by omega), List.drop_eq_nil_of_le (by omega)]
    rfl
  | m + 1, k + 1, i, h, hk => by
    have ih := right_l0 l hl m k (i + 1) (by omega) (by omega)
    rw [opBefore_succ] at ih
    simp only [stat_Right.l0]
    rw [if_pos (by omega), if_pos (by omega), if_pos (by omega), fits_f _ k (by omega), drop_T42 l i (by omega)]
    have e1 : wrap64 ((i : Int) + 1) = ((i + 1 : Nat) : Int) := by rw [w64_id (by omega) (by omega)]; push_cast; rfl
    rw [e1, ih]
    show (if fitsB (rd_T42 l (i : Int)) = true then _ else _) = some (fitsB (rd_T42 l (i : Int)) && decide (opBefore l i < (rd_T42 l (i : Int)).f0) && rightB (rd_T42 l (i : Int)).f0 (l.drop (i + 1)))
    cases hf : fitsB (rd_T42 l (i : Int)) with
    | false => rw [if_neg (by decide)]; simp
    | true =>
      rw [if_pos rfl]
      by_cases h0 : i = 0
      · have hff := of_decide_eq_true hf
        have hd : decide (opBefore l i < (rd_T42 l (i : Int)).f0) = true := decide_eq_true (by unfold opBefore; rw [if_pos h0]; omega)
        rw [if_neg (by omega), hd]
        simp
      · have e2 : wrap64 ((i : Int) - 1) = (i : Int) - 1 := w64_id (by omega) (by omega)
        have e3 : opBefore l i = (rd_T42 l ((i : Int) - 1)).f0 := by unfold opBefore; rw [if_neg h0]
        rw [if_pos (by omega), e2, if_pos (by omega), if_pos (by omega), e3]
        by_cases hc : (rd_T42 l ((i : Int) - 1)).f0 ≥ (rd_T42 l (i : Int)).f0
        · rw [if_pos hc, decide_eq_false (by omega)]; simp
        · rw [if_neg hc, decide_eq_true (by omega)]; simp
theorem right_f (l : List S42) (hl : l.length ≤ 4398046511104) (k : Nat) (hk : l.length + 12 ≤ k) : stat_Right.f k l = some (rightB 0 l) := by
  have h := right_l0 l hl l.length k 0 (by omega) hk
  unfold stat_Right.f
  exact h
/-! ### sorted tables -/
def Srt : Int → List S42 → Prop
  | _, [] => True
  | lo, r :: l => lo < r.f0 ∧ Srt r.f0 l
theorem Srt.le {lo lo' : Int} : ∀ {l : List S42}, Srt lo l → lo' ≤ lo → Srt lo' l
  | [], _, _ => trivial
  | r :: l, h, hl => ⟨by have := h.1; omega, h.2⟩
theorem right_srt : ∀ (l : List S42) (lo : Int), rightB lo l = true → Srt lo l ∧ ∀ r ∈ l, fitsB r = true
  | [], _, _ => ⟨trivial, fun _ h => by simp at h⟩
  | r :: l, lo, h => by
    unfold rightB at h
    simp only [Bool.and_eq_true, decide_eq_true_eq] at h
    obtain ⟨⟨h1, h2⟩, h3⟩ := h
    obtain ⟨h4, h5⟩ := right_srt l r.f0 h3
    refine ⟨⟨h2, h4⟩, fun q hq => ?_⟩
    rcases List.mem_cons.1 hq with rfl | hq
    · exact h1
    · exact h5 q hq
theorem fits_op {r : S42} (h : fitsB r = true) : 1 ≤ r.f0 ∧ r.f0 ≤ 14 := by have := of_decide_eq_true h; omega
def look (l : List S42) (op : Int) : Option S42 := l.find? (fun r => decide (r.f0 = op))
theorem look_cons (r : S42) (l : List S42) (op : Int) : look (r :: l) op = if r.f0 = op then some r else look l op := by
  unfold look
  by_cases h : r.f0 = op
  · rw [if_pos h, List.find?_cons_of_pos (by simpa using h)]
  · rw [if_neg h, List.find?_cons_of_neg (by simpa using h)]
theorem look_low : ∀ {l : List S42} {lo op : Int}, Srt lo l → op ≤ lo → look l op = none
  | [], _, _, _, _ => rfl
  | r :: l, lo, op, h, ho => by
    have h1 := h.1
    rw [look_cons, if_neg (by omega), look_low h.2 (by omega)]
theorem look_op : ∀ {l : List S42} {op : Int} {r : S42}, look l op = some r → r.f0 = op ∧ r ∈ l
  | [], _, _, h => by cases h
  | q :: l, op, r, h => by
    rw [look_cons] at h
    by_cases hc : q.f0 = op
    · rw [if_pos hc] at h; injection h with h; subst h; exact ⟨hc, by simp⟩
    · rw [if_neg hc] at h
      obtain ⟨h1, h2⟩ := look_op h
      exact ⟨h1, List.mem_cons_of_mem _ h2⟩
def upto : Nat → Int → List Int
  | 0, _ => []
  | n + 1, lo => (lo + 1) :: upto n (lo + 1)
theorem upto_gt : ∀ (n : Nat) (lo op : Int), op ∈ upto n lo → lo < op
  | 0, lo, op, h => by simp [upto] at h
  | n + 1, lo, op, h => by
    rcases List.mem_cons.1 h with rfl | h
    · omega
    · have := upto_gt n (lo + 1) op h; omega
theorem fm_congr {α β : Type} {f g : α → Option β} : ∀ {l : List α}, (∀ x ∈ l, f x = g x) → l.filterMap f = l.filterMap g
  | [], _ => rfl
  | x :: l, h => by
    have ih := fm_congr (l := l) (fun y hy => h y (List.mem_cons_of_mem _ hy))
    have hx := h x (by simp)
    cases hg : g x with
    | none => rw [List.filterMap_cons_none (by rw [hx, hg]), List.filterMap_cons_none hg, ih]
    | some y => rw [List.filterMap_cons_some (by rw [hx, hg]), List.filterMap_cons_some hg, ih]
theorem table_ext : ∀ (n : Nat) (lo : Int) (l : List S42), Srt lo l → (∀ r ∈ l, r.f0 ≤ lo + n) → l = (upto n lo).filterMap (look l)
  | 0, lo, [], _, _ => rfl
  | 0, lo, r :: l, h, hl => absurd (hl r (by simp)) (by have := h.1; omega)
  | n + 1, lo, [], _, _ => by
    have : ∀ xs : List Int, xs.filterMap (look []) = [] := fun xs => by
      induction xs with
      | nil => rfl
      | cons x xs ih => rw [List.filterMap_cons_none (by rfl)]; exact ih
    exact (this _).symm
  | n + 1, lo, r :: l, h, hl => by
    by_cases hc : r.f0 = lo + 1
    · have ih := table_ext n (lo + 1) l (by rw [← hc]; exact h.2) (fun q hq => by have := hl q (List.mem_cons_of_mem _ hq); omega)
      have e : (upto n (lo + 1)).filterMap (look (r :: l)) = (upto n (lo + 1)).filterMap (look l) := by
        apply fm_congr
        intro op ho
        have := upto_gt _ _ _ ho
        rw [look_cons, if_neg (by omega)]
      show r :: l = ((lo + 1) :: upto n (lo + 1)).filterMap (look (r :: l))
      rw [List.filterMap_cons_some (b := r) (by rw [look_cons, if_pos hc]), e, ← ih]
    · have h1 := h.1
      have hs : Srt (lo + 1) (r :: l) := ⟨by omega, h.2⟩
      have ih := table_ext n (lo + 1) (r :: l) hs (fun q hq => by have := hl q hq; omega)
      show r :: l = ((lo + 1) :: upto n (lo + 1)).filterMap (look (r :: l))
      rw [List.filterMap_cons_none (look_low hs (by omega))]
      exact ih
/-! ### merging -/
def mergeS : List S42 → List S42 → List S42
  | [], b => b
  | r :: a, [] => r :: a
  | r :: a, q :: b => if r.f0 < q.f0 then r :: mergeS a (q :: b) else if r.f0 > q.f0 then q :: mergeS (r :: a) b else addR r q :: mergeS a b
termination_by a b => a.length + b.length
theorem mergeS_nil (a : List S42) : mergeS a [] = a := by cases a <;> simp [mergeS]
theorem mergeS_nil2 (b : List S42) : mergeS [] b = b := by simp [mergeS]
theorem mergeS_cons (r q : S42) (a b : List S42) : mergeS (r :: a) (q :: b) = if r.f0 < q.f0 then r :: mergeS a (q :: b) else if r.f0 > q.f0 then q :: mergeS (r :: a) b else addR r q :: mergeS a b := by rw [mergeS]
def comb : Option S42 → Option S42 → Option S42
  | none, q => q
  | some r, none => some r
  | some r, some q => some (addR r q)
theorem comb_none (x : Option S42) : comb x none = x := by cases x <;> rfl
theorem look_merge (op : Int) : ∀ (n : Nat) (a b : List S42) (la lb : Int), a.length + b.length ≤ n → Srt la a → Srt lb b → look (mergeS a b) op = comb (look a op) (look b op)
  | n, [], b, la, lb, _, _, _ => by rw [mergeS_nil2]; rfl
  | n, r :: a, [], la, lb, _, _, _ => by
    rw [mergeS_nil]
    show _ = comb _ none
    rw [comb_none]
  | 0, r :: a, q :: b, la, lb, h, _, _ => absurd h (by simp)
  | n + 1, r :: a, q :: b, la, lb, h, ha, hb => by
    simp only [List.length_cons] at h
    rw [mergeS_cons]
    by_cases c1 : r.f0 < q.f0
    · rw [if_pos c1, look_cons, look_merge op n a (q :: b) r.f0 lb (by simp only [List.length_cons]; omega) ha.2 hb, look_cons r a]
      by_cases c : r.f0 = op
      · rw [if_pos c, if_pos c, look_low (l := q :: b) (lo := r.f0) ⟨c1, hb.2⟩ (by omega)]; rfl
      · rw [if_neg c, if_neg c]
    rw [if_neg c1]
    by_cases c2 : r.f0 > q.f0
    · rw [if_pos c2, look_cons, look_merge op n (r :: a) b la q.f0 (by simp only [List.length_cons]; omega) ha hb.2, look_cons q b]
      by_cases c : q.f0 = op
      · rw [if_pos c, if_pos c, look_low (l := r :: a) (lo := q.f0) ⟨c2, ha.2⟩ (by omega)]; rfl
      · rw [if_neg c, if_neg c]
    rw [if_neg c2, look_cons, look_merge op n a b r.f0 q.f0 (by omega) ha.2 hb.2, look_cons r a, look_cons q b]
    show (if r.f0 = op then _ else _) = _
    by_cases c : r.f0 = op
    · rw [if_pos c, if_pos c, if_pos (by omega)]; rfl
    · rw [if_neg c, if_neg c, if_neg (by omega)]
theorem srt_merge : ∀ (n : Nat) (a b : List S42) (lo : Int), a.length + b.length ≤ n → Srt lo a → Srt lo b → Srt lo (mergeS a b)
  | n, [], b, lo, _, _, h => by rw [mergeS_nil2]; exact h
  | n, r :: a, [], lo, _, h, _ => by rw [mergeS_nil]; exact h
  | 0, r :: a, q :: b, lo, h, _, _ => absurd h (by simp)
  | n + 1, r :: a, q :: b, lo, h, ha, hb => by
    simp only [List.length_cons] at h
    rw [mergeS_cons]
    by_cases c1 : r.f0 < q.f0
    · rw [if_pos c1]; exact ⟨ha.1, srt_merge n a (q :: b) r.f0 (by simp only [List.length_cons]; omega) ha.2 ⟨c1, hb.2⟩⟩
    rw [if_neg c1]
    by_cases c2 : r.f0 > q.f0
    · rw [if_pos c2]; exact ⟨hb.1, srt_merge n (r :: a) b q.f0 (by simp only [List.length_cons]; omega) ⟨c2, ha.2⟩ hb.2⟩
    rw [if_neg c2]
    exact ⟨ha.1, srt_merge n a b r.f0 (by omega) ha.2 (hb.2.le (by omega))⟩
theorem mem_merge_op (x : Int) : ∀ (n : Nat) (a b : List S42), a.length + b.length ≤ n → (∀ r ∈ a, r.f0 ≤ x) → (∀ r ∈ b, r.f0 ≤ x) → ∀ r ∈ mergeS a b, r.f0 ≤ x
  | n, [], b, _, _, h => by rw [mergeS_nil2]; exact h
  | n, r :: a, [], _, h, _ => by rw [mergeS_nil]; exact h
  | 0, r :: a, q :: b, h, _, _ => absurd h (by simp)
  | n + 1, r :: a, q :: b, h, ha, hb => by
    simp only [List.length_cons] at h
    rw [mergeS_cons]
    have hr := ha r (by simp)
    have hq := hb q (by simp)
    have ha2 : ∀ r ∈ a, r.f0 ≤ x := fun y hy => ha y (List.mem_cons_of_mem _ hy)
    have hb2 : ∀ r ∈ b, r.f0 ≤ x := fun y hy => hb y (List.mem_cons_of_mem _ hy)
    intro y hy
    by_cases c1 : r.f0 < q.f0
    · rw [if_pos c1] at hy
      rcases List.mem_cons.1 hy with rfl | hy
      · exact hr
      · exact mem_merge_op x n a (q :: b) (by simp only [List.length_cons]; omega) ha2 hb y hy
    rw [if_neg c1] at hy
    by_cases c2 : r.f0 > q.f0
    · rw [if_pos c2] at hy
      rcases List.mem_cons.1 hy with rfl | hy
      · exact hq
      · exact mem_merge_op x n (r :: a) b (by simp only [List.length_cons]; omega) ha hb2 y hy
    rw [if_neg c2] at hy
    rcases List.mem_cons.1 hy with rfl | hy
    · exact hr
    · exact mem_merge_op x n a b (by omega) ha2 hb2 y hy
theorem merge_len : ∀ (n : Nat) (a b : List S42), a.length + b.length ≤ n → (mergeS a b).length ≤ a.length + b.length
  | n, [], b, _ => by rw [mergeS_nil2]; simp
  | n, r :: a, [], _ => by rw [mergeS_nil]; simp
  | 0, r :: a, q :: b, h => absurd h (by simp)
  | n + 1, r :: a, q :: b, h => by
    simp only [List.length_cons] at h
    rw [mergeS_cons]
    have h1 := merge_len n a (q :: b) (by simp only [List.length_cons]; omega)
    have h2 := merge_len n (r :: a) b (by simp only [List.length_cons]; omega)
    have h3 := merge_len n a b (by omega)
    simp only [List.length_cons] at h1 h2 ⊢
    split
    · simp only [List.length_cons]; omega
    · split
      · simp only [List.length_cons]; omega
      · simp only [List.length_cons]; omega
/-- A merged table, by its rows. -/
theorem merge_ext {a b : List S42} (ha : rightB 0 a = true) (hb : rightB 0 b = true) : mergeS a b = (upto 14 0).filterMap (fun op => comb (look a op) (look b op)) := by
  obtain ⟨sa, fa⟩ := right_srt a 0 ha
  obtain ⟨sb, fb⟩ := right_srt b 0 hb
  have h := table_ext 14 0 (mergeS a b) (srt_merge _ a b 0 (Nat.le_refl _) sa sb) (mem_merge_op _ _ a b (Nat.le_refl _) (fun r hr => by have := (fits_op (fa r hr)).2; simpa using this) (fun r hr => by have := (fits_op (fb r hr)).2; simpa using this))
  refine h.trans (fm_congr fun op _ => ?_)
  exact look_merge op _ a b 0 0 (Nat.le_refl _) sa sb
theorem addR_comm (r q : S42) (h : r.f0 = q.f0) : addR r q = addR q r := by
  unfold addR
  rw [h, Int.add_comm r.f1, Int.add_comm r.f2, Int.add_comm r.f3, Int.add_comm r.f4]
theorem wadd_assoc (a b c : Int) : wrap64 (wrap64 (a + b) + c) = wrap64 (a + wrap64 (b + c)) := by unfold wrap64; omega
theorem addR_assoc (r q x : S42) : addR (addR r q) x = addR r (addR q x) := by
  simp only [addR, wadd_assoc]
theorem merge_comm {a b : List S42} (ha : rightB 0 a = true) (hb : rightB 0 b = true) : mergeS a b = mergeS b a := by
  rw [merge_ext ha hb, merge_ext hb ha]
  refine fm_congr fun op _ => ?_
  cases h1 : look a op with
  | none => cases h2 : look b op <;> rfl
  | some r =>
    cases h2 : look b op with
    | none => rfl
    | some q => show some (addR r q) = some (addR q r); rw [addR_comm r q (by rw [(look_op h1).1, (look_op h2).1])]
theorem merge_assoc {a b c : List S42} (ha : rightB 0 a = true) (hb : rightB 0 b = true) (hc : rightB 0 c = true) (hab : rightB 0 (mergeS a b) = true) (hbc : rightB 0 (mergeS b c) = true) : mergeS (mergeS a b) c = mergeS a (mergeS b c) := by
  rw [merge_ext hab hc, merge_ext ha hbc]
  obtain ⟨sa, _⟩ := right_srt a 0 ha
  obtain ⟨sb, _⟩ := right_srt b 0 hb
  obtain ⟨sc, _⟩ := right_srt c 0 hc
  refine fm_congr fun op _ => ?_
  rw [look_merge op _ a b 0 0 (Nat.le_refl _) sa sb, look_merge op _ b c 0 0 (Nat.le_refl _) sb sc]
  cases look a op with
  | none => rfl
  | some r =>
    cases look b op with
    | none => rfl
    | some q =>
      cases look c op with
      | none => rfl
      | some x => show some (addR (addR r q) x) = some (addR r (addR q x)); rw [addR_assoc]
end Go.Proofs.Ytcmknnhhbcgoiaa.Pure
