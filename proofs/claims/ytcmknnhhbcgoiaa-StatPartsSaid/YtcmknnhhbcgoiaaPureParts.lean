/- The plain law of StatParts: mutants counted in two parts, merged, are all counted. -/
import Derived.Test.YtcmknnhhbcgoiaaPureCounts
import Derived.Test.YtcmknnhhbcgoiaaPureMrg
namespace Go.Proofs.Ytcmknnhhbcgoiaa.Pure
open Go.RowKit Go.Proofs.Ytcmknnhhbcgoiaa.QN Go.Proofs.YtcmknnhhbcgoiaaW.PrintWords Go.Proofs.YtcmknnhhbcgoiaaW.PrintLast
set_option linter.unusedVariables false
set_option linter.unusedSimpArgs false
def subV (n : Nat) (x : SV) : SV := ⟨wrap64 (x.f0 - (n : Int)), x.f1, x.f2, x.f3, x.f4, x.f5, x.f6, x.f7⟩
theorem okAll_take : ∀ (n : Nat) (l : List S67) (v : List SV) (i : Nat), okAll i l v = true → okAll i (l.take n) (v.take n) = true
  | 0, l, v, i, _ => rfl
  | n + 1, [], v, i, _ => by cases v <;> rfl
  | n + 1, m :: l, [], i, _ => rfl
  | n + 1, m :: l, x :: v, i, h => by
    unfold okAll at h
    rw [Bool.and_eq_true] at h
    show (cok i m x && okAll (i + 1) (l.take n) (v.take n)) = true
    rw [h.1, okAll_take n l v (i + 1) h.2]
    rfl
theorem okAll_drop : ∀ (n : Nat) (l : List S67) (v : List SV) (i : Nat), l.length = v.length → okAll i l v = true → okAll (i + n) (l.drop n) (v.drop n) = true
  | 0, l, v, i, _, h => h
  | n + 1, [], v, i, hl, _ => by
    have : v = [] := by cases v with | nil => rfl | cons => simp at hl
    subst this; rfl
  | n + 1, m :: l, [], i, hl, _ => by simp at hl
  | n + 1, m :: l, x :: v, i, hl, h => by
    unfold okAll at h
    rw [Bool.and_eq_true] at h
    have := okAll_drop n l v (i + 1) (by simpa using hl) h.2
    rw [show i + 1 + n = i + (n + 1) by omega] at this
    exact this
theorem okAll_sub (n : Nat) : ∀ (l : List S67) (v : List SV) (i : Nat), i + n + l.length ≤ 10000 → okAll (i + n) l v = true → okAll i l (v.map (subV n)) = true
  | [], v, i, _, _ => by cases v <;> rfl
  | m :: l, [], i, _, _ => rfl
  | m :: l, x :: v, i, hb, h => by
    unfold okAll at h
    rw [Bool.and_eq_true] at h
    simp only [List.length_cons] at hb
    show (cok i m (subV n x) && okAll (i + 1) l (v.map (subV n))) = true
    have h2 := h.2
    rw [show i + n + 1 = i + 1 + n by omega] at h2
    rw [okAll_sub n l v (i + 1) (by omega) h2, Bool.and_true]
    have h1 := h.1
    unfold cok at h1 ⊢
    rw [Bool.and_eq_true] at h1 ⊢
    refine ⟨h1.1, ?_⟩
    have := of_decide_eq_true h1.2
    refine decide_eq_true ?_
    unfold subV
    simp only
    rw [w64_id (by omega) (by omega)]
    omega
theorem zipP_sub (n : Nat) : ∀ (l : List S67) (v : List SV), zipP l (v.map (subV n)) = zipP l v
  | [], v => by cases v <;> rfl
  | m :: l, [] => rfl
  | m :: l, x :: v => by
    have ih := zipP_sub n l v
    simp only [zipP, List.map_cons, List.zipWith_cons_cons] at ih ⊢
    rw [ih]
    rfl
theorem zipP_split : ∀ (n : Nat) (l : List S67) (v : List SV), zipP l v = zipP (l.take n) (v.take n) ++ zipP (l.drop n) (v.drop n)
  | 0, l, v => rfl
  | n + 1, [], v => by cases v <;> rfl
  | n + 1, m :: l, [] => by simp [zipP]
  | n + 1, m :: l, x :: v => by
    have ih := zipP_split n l v
    simp only [zipP, List.zipWith_cons_cons, List.take_succ_cons, List.drop_succ_cons, List.cons_append] at ih ⊢
    rw [ih]
theorem countF_ok (l : List S67) (v : List SV) (h : l.length = v.length) (hl : l.length ≤ 2000) (hok : okAll 0 l v = true) : CountF l v = some (tabP (zipP l v)) := by
  have hs := cnt_okAll l v 0 (List.replicate 15 z42) h
  rw [hok] at hs
  obtain ⟨t, ht⟩ := Option.isSome_iff_exists.1 hs
  have hc : CountF l v = some (keepR t) := by unfold CountF; rw [if_pos h, ht]; rfl
  obtain ⟨_, h2, _⟩ := count_tab l v hl _ hc
  rw [hc, ← h2]
theorem countF_okAll (l : List S67) (v : List SV) (t : List S42) (h : CountF l v = some t) : l.length = v.length ∧ okAll 0 l v = true := by
  have hw := wrong_none l v
  rw [h] at hw
  unfold wrongB at hw
  by_cases hl : l.length = v.length
  · rw [if_pos hl] at hw
    exact ⟨hl, by simpa using hw⟩
  · rw [if_neg hl] at hw; cases hw
theorem look_sel (P : List Pr) (ok : ∀ x ∈ P, okP x) : ∀ (n : Nat) (lo op : Int), look ((upto n lo).filterMap (selP P)) op = if lo < op ∧ op ≤ lo + n then selP P op else none
  | 0, lo, op => by rw [if_neg (by omega)]; rfl
  | n + 1, lo, op => by
    have ih := look_sel P ok n (lo + 1) op
    show look (((lo + 1) :: upto n (lo + 1)).filterMap (selP P)) op = _
    cases hs : selP P (lo + 1) with
    | none =>
      rw [List.filterMap_cons_none hs, ih]
      by_cases h1 : op = lo + 1
      · subst h1
        rw [if_neg (by omega), if_pos (by omega), hs]
      · by_cases h2 : lo + 1 < op ∧ op ≤ lo + 1 + n
        · rw [if_pos h2, if_pos (by omega)]
        · rw [if_neg h2, if_neg (by omega)]
    | some r =>
      have hr : r.f0 = lo + 1 := by
        have h0 := hs
        unfold selP at h0
        by_cases hz : sN P (lo + 1) = 0
        · rw [if_pos hz] at h0; cases h0
        · rw [if_neg hz] at h0
          injection h0 with h0
          rw [← h0]
          unfold rowI
          simp only
          rw [if_neg hz]
      rw [List.filterMap_cons_some hs, look_cons, ih]
      by_cases h1 : op = lo + 1
      · subst h1
        rw [if_pos hr, if_pos (by omega), hs]
      · rw [if_neg (by omega)]
        by_cases h2 : lo + 1 < op ∧ op ≤ lo + 1 + n
        · rw [if_pos h2, if_pos (by omega)]
        · rw [if_neg h2, if_neg (by omega)]
theorem comb_sel (P Q : List Pr) (hP : P.length + Q.length ≤ 1000000) (op : Int) : comb (selP P op) (selP Q op) = selP (P ++ Q) op := by
  unfold selP
  rw [sN_app]
  by_cases h1 : sN P op = 0
  · rw [if_pos h1]
    by_cases h2 : sN Q op = 0
    · rw [if_pos h2, if_pos (by omega)]; rfl
    · rw [if_neg h2, if_neg (by omega)]
      show some _ = some _
      unfold rowI
      simp only [cN_app, sN_app, sN_zero h1, h1, Nat.zero_add]
  · rw [if_neg h1, if_neg (show ¬ (sN P op + sN Q op = 0) by omega)]
    by_cases h2 : sN Q op = 0
    · rw [if_pos h2]
      show some _ = some _
      unfold rowI
      simp only [cN_app, sN_app, sN_zero h2, h2, Nat.add_zero]
    · rw [if_neg h2]
      show some (addR (rowI P op) (rowI Q op)) = some _
      have w : ∀ k, wrap64 ((cN P op k : Int) + (cN Q op k : Int)) = ((cN P op k + cN Q op k : Nat) : Int) := fun k => by
        have a := cN_le P op k
        have b := cN_le Q op k
        rw [w64_id (by omega) (by omega)]; push_cast; rfl
      unfold addR rowI
      simp only [cN_app, sN_app, w]
      rw [if_neg h1, if_neg (by omega)]
theorem merge_tab (P Q : List Pr) (hP : P.length + Q.length ≤ 1000000) (okp : ∀ x ∈ P, okP x) (okq : ∀ x ∈ Q, okP x) : mergeS (tabP P) (tabP Q) = tabP (P ++ Q) := by
  rw [merge_ext (tabP_right P (by omega) okp) (tabP_right Q (by omega) okq)]
  unfold tabP
  refine fm_congr fun op ho => ?_
  have h1 := upto_gt 14 0 op ho
  have h2 : op ≤ 14 := by
    have : ∀ (n : Nat) (lo op : Int), op ∈ upto n lo → op ≤ lo + n := by
      intro n
      induction n with
      | zero => intro lo op h; simp [upto] at h
      | succ n ih =>
        intro lo op h
        rcases List.mem_cons.1 h with rfl | h
        · omega
        · have := ih (lo + 1) op h; omega
    have := this 14 0 op ho
    omega
  rw [look_sel P okp, look_sel Q okq, if_pos (by omega), if_pos (by omega), comb_sel P Q hP]
/-- All that StatParts asks, where the verdicts may be counted. -/
theorem parts_yes (l : List S67) (v : List SV) (hl : l.length ≤ 2000) (n : Nat) (hn : n ≤ l.length) (t : List S42) (h : CountF l v = some t) :
    ∃ a b, CountF (l.take n) (v.take n) = some a ∧ CountF (l.drop n) ((v.drop n).map (subV n)) = some b ∧ stat_Merge.f 10000 a b = some (t, 0) ∧ changelinglaw25_rows.f 100 t = some (t.map toRow) ∧ changelinglaw25_same.f 100 (t.map toRow) (t.map toRow) = some true := by
  obtain ⟨hlv, hok⟩ := countF_okAll l v t h
  obtain ⟨_, ht, okp⟩ := count_tab l v hl t h
  have k1 := okAll_take n l v 0 hok
  have k2 := okAll_sub n (l.drop n) (v.drop n) 0 (by rw [List.length_drop]; omega) (by have := okAll_drop n l v 0 hlv hok; simpa using this)
  have e1 : (l.take n).length = (v.take n).length := by rw [List.length_take, List.length_take]; omega
  have e2 : (l.drop n).length = ((v.drop n).map (subV n)).length := by rw [List.length_map, List.length_drop, List.length_drop]; omega
  have c1 := countF_ok _ _ e1 (by rw [List.length_take]; omega) k1
  have c2 := countF_ok _ _ e2 (by rw [List.length_drop]; omega) k2
  rw [zipP_sub] at c2
  have hz := zipP_split n l v
  have z1 := zipP_len _ _ e1
  have z2 : (zipP (l.drop n) (v.drop n)).length = (l.drop n).length := zipP_len _ _ (by rw [List.length_drop, List.length_drop]; omega)
  rw [List.length_take] at z1
  rw [List.length_drop] at z2
  have o1 : ∀ x ∈ zipP (l.take n) (v.take n), okP x := fun x hx => okp x (by rw [hz]; exact List.mem_append_left _ hx)
  have o2 : ∀ x ∈ zipP (l.drop n) (v.drop n), okP x := fun x hx => okp x (by rw [hz]; exact List.mem_append_right _ hx)
  have hlen := tabP_len (zipP l v)
  rw [← ht] at hlen
  have hl1 := tabP_len (zipP (l.take n) (v.take n))
  have hl2 := tabP_len (zipP (l.drop n) (v.drop n))
  refine ⟨_, _, c1, c2, ?_, rows_f t (by omega) _ (by omega), same_f t (by omega) _ (by omega)⟩
  rw [merge_f _ _ (by omega) (by omega) _ (by omega), if_pos ⟨tabP_right _ (by omega) o1, tabP_right _ (by omega) o2⟩, merge_tab _ _ (by omega) o1 o2, ← hz]
  unfold finB
  rw [if_pos (tabP_right _ (by rw [zipP_len l v hlv]; omega) okp), ht]
end Go.Proofs.Ytcmknnhhbcgoiaa.Pure
