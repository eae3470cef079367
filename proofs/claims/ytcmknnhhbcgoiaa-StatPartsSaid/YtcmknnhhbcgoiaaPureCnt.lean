/- The plain law of counting: the table that comes of verdicts, by their numbers; it may be, and its sum counts each verdict once. -/
import Derived.Test.YtcmknnhhbcgoiaaPureTx
namespace Go.Proofs.Ytcmknnhhbcgoiaa.Pure
open Go.RowKit Go.Proofs.Ytcmknnhhbcgoiaa.QN Go.Proofs.YtcmknnhhbcgoiaaW.PrintWords Go.Proofs.YtcmknnhhbcgoiaaW.PrintLast
set_option linter.unusedVariables false
set_option linter.unusedSimpArgs false
abbrev Pr := Int × Int
def cN (P : List Pr) (op k : Int) : Nat := P.countP (fun x => decide (x.1 = op ∧ x.2 = k))
def sN (P : List Pr) (op : Int) : Nat := P.countP (fun x => decide (x.1 = op))
def okP (x : Pr) : Prop := 1 ≤ x.1 ∧ x.1 ≤ 14 ∧ 1 ≤ x.2 ∧ x.2 ≤ 4
def rowI (P : List Pr) (op : Int) : S42 := ⟨if sN P op = 0 then 0 else op, cN P op 1, cN P op 2, cN P op 3, cN P op 4⟩
def ops15 : List Int := 0 :: upto 14 0
def tab15 (P : List Pr) : List S42 := ops15.map (rowI P)
theorem cN_le (P : List Pr) (op k : Int) : cN P op k ≤ P.length := List.countP_le_length
theorem cN_snoc (P : List Pr) (x : Pr) (op k : Int) : cN (P ++ [x]) op k = cN P op k + (if x.1 = op ∧ x.2 = k then 1 else 0) := by
  unfold cN
  rw [List.countP_append]
  by_cases h : x.1 = op ∧ x.2 = k
  · rw [if_pos h, List.countP_cons_of_pos (by simpa using h)]; rfl
  · rw [if_neg h, List.countP_cons_of_neg (by simpa using h)]; rfl
theorem sN_snoc (P : List Pr) (x : Pr) (op : Int) : sN (P ++ [x]) op = sN P op + (if x.1 = op then 1 else 0) := by
  unfold sN
  rw [List.countP_append]
  by_cases h : x.1 = op
  · rw [if_pos h, List.countP_cons_of_pos (by simpa using h)]; rfl
  · rw [if_neg h, List.countP_cons_of_neg (by simpa using h)]; rfl
theorem cN_app (P Q : List Pr) (op k : Int) : cN (P ++ Q) op k = cN P op k + cN Q op k := List.countP_append
theorem sN_app (P Q : List Pr) (op : Int) : sN (P ++ Q) op = sN P op + sN Q op := List.countP_append
theorem sN_cons (x : Pr) (P : List Pr) (op : Int) : sN (x :: P) op = sN P op + (if x.1 = op then 1 else 0) := by
  unfold sN
  by_cases h : x.1 = op
  · rw [if_pos h, List.countP_cons_of_pos (by simpa using h)]
  · rw [if_neg h, List.countP_cons_of_neg (by simpa using h)]; rfl
theorem cN_cons (x : Pr) (P : List Pr) (op k : Int) : cN (x :: P) op k = cN P op k + (if x.1 = op ∧ x.2 = k then 1 else 0) := by
  unfold cN
  by_cases h : x.1 = op ∧ x.2 = k
  · rw [if_pos h, List.countP_cons_of_pos (by simpa using h)]
  · rw [if_neg h, List.countP_cons_of_neg (by simpa using h)]; rfl
theorem sN_sum : ∀ (P : List Pr) (op : Int), (∀ x ∈ P, okP x) → sN P op = cN P op 1 + cN P op 2 + cN P op 3 + cN P op 4
  | [], op, _ => rfl
  | x :: P, op, h => by
    have ih := sN_sum P op (fun y hy => h y (List.mem_cons_of_mem _ hy))
    have hx := h x (by simp)
    unfold okP at hx
    rw [sN_cons, cN_cons, cN_cons, cN_cons, cN_cons, ih]
    by_cases h1 : x.1 = op
    · simp only [h1, if_true, true_and]
      have : x.2 = 1 ∨ x.2 = 2 ∨ x.2 = 3 ∨ x.2 = 4 := by omega
      rcases this with e | e | e | e <;> simp [e] <;> omega
    · simp [h1]
theorem ops15_at : ∀ j : Nat, j < 15 → ops15[j]? = some (j : Int) := by decide
theorem ops15_len : ops15.length = 15 := rfl
theorem tab15_at (P : List Pr) (j : Nat) (h : j < 15) : (tab15 P)[j]? = some (rowI P (j : Int)) := by
  unfold tab15
  rw [List.getElem?_map, ops15_at j h]; rfl
theorem tab15_len (P : List Pr) : (tab15 P).length = 15 := by unfold tab15; rw [List.length_map]; rfl
theorem rd_tab (P : List Pr) (op : Int) (h0 : 0 ≤ op) (h : op < 15) : rd_T42 (tab15 P) op = rowI P op := by
  obtain ⟨j, rfl⟩ := Int.eq_ofNat_of_zero_le h0
  have hj := tab15_at P j (by omega)
  simp [rd_T42, List.getD, hj]
theorem step_tab (P : List Pr) (hP : P.length ≤ 1000000) (m : S67) (x : SV) (h : okOne m.f1 x.f1 = true) : stepR (tab15 P) m x = tab15 (P ++ [(m.f1, x.f1)]) := by
  have ho := of_decide_eq_true h
  unfold stepR
  rw [rd_tab P _ (by omega) (by omega)]
  apply List.ext_getElem?
  intro j
  by_cases hj : j < 15
  · rw [tab15_at _ j hj, List.getElem?_set]
    have l1 := cN_le P m.f1 1
    have l2 := cN_le P m.f1 2
    have l3 := cN_le P m.f1 3
    have l4 := cN_le P m.f1 4
    by_cases hm : m.f1.toNat = j
    · have e : m.f1 = (j : Int) := by omega
      rw [if_pos hm, if_pos (by rw [tab15_len]; exact hm ▸ hj), ← e]
      congr 1
      unfold rowI addR oneR
      simp only [cN_snoc, sN_snoc, true_and, if_true]
      rw [if_neg (show ¬ sN P m.f1 + 1 = 0 by omega)]
      have w : ∀ (k : Int) (c : Nat), c ≤ P.length → wrap64 ((if x.f1 = k then 1 else 0) + (c : Int)) = ((c + (if x.f1 = k then 1 else 0) : Nat) : Int) := fun k c hc => by
        by_cases hk : x.f1 = k
        · rw [if_pos hk, if_pos hk, w64_id (by omega) (by omega)]; omega
        · rw [if_neg hk, if_neg hk, w64_id (by omega) (by omega)]; omega
      rw [w 1 _ l1, w 2 _ l2, w 3 _ l3, w 4 _ l4]
    · rw [if_neg hm, tab15_at _ j hj]
      congr 1
      have e : ¬ m.f1 = (j : Int) := by omega
      unfold rowI
      simp [cN_snoc, sN_snoc, e]
  · rw [List.getElem?_eq_none (by rw [List.length_set, tab15_len]; omega), List.getElem?_eq_none (by rw [tab15_len]; omega)]
def zipP (l : List S67) (v : List SV) : List Pr := List.zipWith (fun m x => (m.f1, x.f1)) l v
theorem cnt_tab : ∀ (l : List S67) (v : List SV) (i : Nat) (P : List Pr) (t : List S42), P.length + l.length ≤ 1000000 → l.length = v.length → cnt i (tab15 P) l v = some t → t = tab15 (P ++ zipP l v) ∧ ∀ x ∈ zipP l v, okP x
  | [], v, i, P, t, _, _, h => by
    simp only [cnt, Option.some.injEq] at h
    refine ⟨by simp [zipP, ← h], fun x hx => by simp [zipP] at hx⟩
  | m :: l, [], i, P, t, _, hl, h => by simp at hl
  | m :: l, x :: v, i, P, t, hn, hl, h => by
    unfold cnt at h
    by_cases hc : cok i m x = true
    · rw [if_pos hc] at h
      unfold cok at hc
      simp only [Bool.and_eq_true] at hc
      simp only [List.length_cons] at hn hl
      rw [step_tab P (by omega) m x hc.1] at h
      obtain ⟨h1, h2⟩ := cnt_tab l v (i + 1) (P ++ [(m.f1, x.f1)]) t (by simp only [List.length_append, List.length_cons, List.length_nil]; omega) (by omega) h
      refine ⟨by rw [h1]; simp [zipP], fun y hy => ?_⟩
      simp only [zipP, List.zipWith_cons_cons, List.mem_cons] at hy
      rcases hy with rfl | hy
      · have ho := of_decide_eq_true hc.1
        unfold okP
        exact ⟨ho.2.2.1, ho.2.2.2, ho.1, ho.2.1⟩
      · exact h2 y hy
    · rw [if_neg hc] at h; cases h
/-! ### the table -/
def selP (P : List Pr) (op : Int) : Option S42 := if sN P op = 0 then none else some (rowI P op)
def tabP (P : List Pr) : List S42 := (upto 14 0).filterMap (selP P)
theorem map_filter {α β : Type} (f : α → β) (p : β → Bool) : ∀ l : List α, (l.map f).filter p = l.filterMap (fun x => if p (f x) = true then some (f x) else none)
  | [] => rfl
  | x :: l => by
    have ih := map_filter f p l
    by_cases h : p (f x) = true
    · rw [List.map_cons, List.filter_cons_of_pos h, List.filterMap_cons_some (b := f x) (by rw [if_pos h]), ih]
    · rw [List.map_cons, List.filter_cons_of_neg h, List.filterMap_cons_none (by rw [if_neg h]), ih]
theorem tot_row (P : List Pr) (hP : P.length ≤ 1000000) (ok : ∀ x ∈ P, okP x) (op : Int) : totR (rowI P op) = (sN P op : Int) := by
  have l1 := cN_le P op 1
  have l2 := cN_le P op 2
  have l3 := cN_le P op 3
  have l4 := cN_le P op 4
  rw [sN_sum P op ok]
  unfold totR rowI
  simp only
  rw [w64_id (n := (cN P op 1 : Int) + cN P op 2) (by omega) (by omega), w64_id (n := (cN P op 1 : Int) + cN P op 2 + cN P op 3) (by omega) (by omega), w64_id (by omega) (by omega)]
  omega
theorem sN_out (P : List Pr) (ok : ∀ x ∈ P, okP x) (op : Int) (h : op < 1 ∨ 14 < op) : sN P op = 0 := by
  unfold sN
  rw [List.countP_eq_zero]
  intro x hx
  have := ok x hx
  unfold okP at this
  simp
  omega
theorem keep_tab (P : List Pr) (hP : P.length ≤ 1000000) (ok : ∀ x ∈ P, okP x) : keepR (tab15 P) = tabP P := by
  unfold keepR tab15 ops15 tabP
  rw [map_filter, List.filterMap_cons_none]
  · refine fm_congr fun op _ => ?_
    unfold selP
    have ht := tot_row P hP ok op
    by_cases h : sN P op = 0
    · rw [if_pos h, if_neg]; simp; omega
    · rw [if_neg h, if_pos]; simp; omega
  · have ht := tot_row P hP ok 0
    rw [sN_out P ok 0 (by omega)] at ht
    rw [if_neg]; simp; omega
theorem zipP_len (l : List S67) (v : List SV) (h : l.length = v.length) : (zipP l v).length = l.length := by
  unfold zipP
  rw [List.length_zipWith]
  omega
/-- What Count gives, where it gives something. -/
theorem count_tab (l : List S67) (v : List SV) (hl : l.length ≤ 2000) (t : List S42) (h : CountF l v = some t) : l.length = v.length ∧ t = tabP (zipP l v) ∧ ∀ x ∈ zipP l v, okP x := by
  unfold CountF at h
  by_cases hlv : l.length = v.length
  · rw [if_pos hlv] at h
    have e0 : List.replicate 15 z42 = tab15 [] := by rfl
    rw [e0] at h
    cases hc : cnt 0 (tab15 []) l v with
    | none => rw [hc] at h; cases h
    | some u =>
      rw [hc] at h
      obtain ⟨h1, h2⟩ := cnt_tab l v 0 [] u (by simp only [List.length_nil]; omega) hlv hc
      rw [List.nil_append] at h1
      have hk := keep_tab (zipP l v) (by rw [zipP_len l v hlv]; omega) h2
      refine ⟨hlv, ?_, h2⟩
      rw [← hk, ← h1]
      injection h with h
      exact h.symm
  · rw [if_neg hlv] at h; cases h
theorem sel_fits (P : List Pr) (hP : P.length ≤ 1000000) (ok : ∀ x ∈ P, okP x) (op : Int) (r : S42) (h : selP P op = some r) : r = rowI P op ∧ r.f0 = op ∧ fitsB r = true := by
  unfold selP at h
  by_cases h0 : sN P op = 0
  · rw [if_pos h0] at h; cases h
  · rw [if_neg h0] at h
    injection h with h
    subst h
    have ho : 1 ≤ op ∧ op ≤ 14 := by
      by_cases hh : 1 ≤ op ∧ op ≤ 14
      · exact hh
      · exact absurd (sN_out P ok op (by omega)) h0
    have hs := sN_sum P op ok
    have l1 := cN_le P op 1
    have l2 := cN_le P op 2
    have l3 := cN_le P op 3
    have l4 := cN_le P op 4
    have e : (rowI P op).f0 = op := by unfold rowI; simp only; rw [if_neg h0]
    refine ⟨rfl, e, decide_eq_true ?_⟩
    rw [e]
    unfold rowI
    simp only
    omega
theorem right_sel (P : List Pr) (hP : P.length ≤ 1000000) (ok : ∀ x ∈ P, okP x) : ∀ (n : Nat) (lo lo' : Int), lo' ≤ lo → rightB lo' ((upto n lo).filterMap (selP P)) = true
  | 0, lo, lo', _ => rfl
  | n + 1, lo, lo', h => by
    show rightB lo' (((lo + 1) :: upto n (lo + 1)).filterMap (selP P)) = true
    cases hs : selP P (lo + 1) with
    | none => rw [List.filterMap_cons_none hs]; exact right_sel P hP ok n (lo + 1) lo' (by omega)
    | some r =>
      rw [List.filterMap_cons_some hs]
      obtain ⟨h1, h2, h3⟩ := sel_fits P hP ok _ _ hs
      have ih := right_sel P hP ok n (lo + 1) r.f0 (by omega)
      unfold rightB
      rw [h3, ih, decide_eq_true (by omega)]
      rfl
theorem tabP_right (P : List Pr) (hP : P.length ≤ 1000000) (ok : ∀ x ∈ P, okP x) : rightB 0 (tabP P) = true := right_sel P hP ok 14 0 0 (Int.le_refl _)
theorem fm_len {α β : Type} (f : α → Option β) : ∀ l : List α, (l.filterMap f).length ≤ l.length
  | [] => Nat.le_refl _
  | x :: l => by
    have ih := fm_len f l
    cases h : f x with
    | none => rw [List.filterMap_cons_none h]; simp only [List.length_cons]; omega
    | some y => rw [List.filterMap_cons_some h]; simp only [List.length_cons]; omega
theorem tabP_len (P : List Pr) : (tabP P).length ≤ 14 := fm_len _ _
/-! ### its sum -/
def rN (P : List Pr) (lo hi k : Int) : Nat := P.countP (fun x => decide (lo < x.1 ∧ x.1 ≤ hi ∧ x.2 = k))
theorem rN_step : ∀ (P : List Pr) (lo hi k : Int), lo + 1 ≤ hi → rN P lo hi k = cN P (lo + 1) k + rN P (lo + 1) hi k
  | [], _, _, _, _ => rfl
  | x :: P, lo, hi, k, h => by
    have ih := rN_step P lo hi k h
    unfold rN at ih ⊢
    unfold cN at ih ⊢
    simp only [List.countP_cons, ih]
    by_cases h1 : x.2 = k
    · by_cases h2 : x.1 = lo + 1
      · have e1 : decide (lo < x.1 ∧ x.1 ≤ hi ∧ x.2 = k) = true := decide_eq_true (by omega)
        have e2 : decide (x.1 = lo + 1 ∧ x.2 = k) = true := decide_eq_true (by omega)
        have e3 : decide (lo + 1 < x.1 ∧ x.1 ≤ hi ∧ x.2 = k) = false := decide_eq_false (by omega)
        rw [e1, e2, e3]; simp; omega
      · have e2 : decide (x.1 = lo + 1 ∧ x.2 = k) = false := decide_eq_false (by omega)
        have e3 : decide (lo + 1 < x.1 ∧ x.1 ≤ hi ∧ x.2 = k) = decide (lo < x.1 ∧ x.1 ≤ hi ∧ x.2 = k) := decide_eq_decide.2 ⟨fun h => by omega, fun h => by omega⟩
        rw [e2, e3]; simp; omega
    · have e1 : decide (lo < x.1 ∧ x.1 ≤ hi ∧ x.2 = k) = false := decide_eq_false (by omega)
      have e2 : decide (x.1 = lo + 1 ∧ x.2 = k) = false := decide_eq_false (by omega)
      have e3 : decide (lo + 1 < x.1 ∧ x.1 ≤ hi ∧ x.2 = k) = false := decide_eq_false (by omega)
      rw [e1, e2, e3]; simp
theorem rN_le (P : List Pr) (lo hi k : Int) : rN P lo hi k ≤ P.length := List.countP_le_length
theorem rN_nil (P : List Pr) (lo k : Int) : rN P lo lo k = 0 := by
  unfold rN
  rw [List.countP_eq_zero]
  intro x _
  simp
  omega
theorem sN_zero {P : List Pr} {op : Int} (h : sN P op = 0) (k : Int) : cN P op k = 0 := by
  unfold sN at h
  unfold cN
  rw [List.countP_eq_zero] at h ⊢
  intro x hx
  have := h x hx
  simp at this ⊢
  intro h; exact absurd h this
set_option maxRecDepth 100000 in
theorem sum_sel (P : List Pr) (hP : P.length ≤ 1000000) (ok : ∀ x ∈ P, okP x) (C D : Nat) (hC : C ≤ 100000000) (hD : D = 1000000) : ∀ (n : Nat) (lo : Int) (acc : S42) (a1 a2 a3 a4 : Nat), acc = ⟨0, a1, a2, a3, a4⟩ → a1 + n * D ≤ C → a2 + n * D ≤ C → a3 + n * D ≤ C → a4 + n * D ≤ C →
    sum0 acc ((upto n lo).filterMap (selP P)) = ⟨0, (a1 + rN P lo (lo + n) 1 : Nat), (a2 + rN P lo (lo + n) 2 : Nat), (a3 + rN P lo (lo + n) 3 : Nat), (a4 + rN P lo (lo + n) 4 : Nat)⟩
  | 0, lo, acc, a1, a2, a3, a4, h, _, _, _, _ => by
    have e : ∀ k, rN P lo (lo + (0 : Nat)) k = 0 := fun k => by have := rN_nil P lo k; simpa using this
    rw [e 1, e 2, e 3, e 4, h]
    rfl
  | n + 1, lo, acc, a1, a2, a3, a4, h, b1, b2, b3, b4 => by
    have q1 : ∀ a : Nat, a + (n + 1) * D ≤ C → a + n * D ≤ C := fun a h => by rw [Nat.succ_mul] at h; omega
    have q2 : ∀ a c : Nat, c ≤ P.length → a + (n + 1) * D ≤ C → a + c + n * D ≤ C := fun a c hc h => by rw [Nat.succ_mul] at h; omega
    have q3 : ∀ a : Nat, a + (n + 1) * D ≤ C → a ≤ C := fun a h => by omega
    have st := fun k => rN_step P lo (lo + ((n + 1 : Nat) : Int)) k (by omega)
    have ea : lo + ((n + 1 : Nat) : Int) = lo + 1 + (n : Int) := by omega
    rw [ea] at st ⊢
    rw [st 1, st 2, st 3, st 4]
    have c1 := cN_le P (lo + 1) 1
    have c2 := cN_le P (lo + 1) 2
    have c3 := cN_le P (lo + 1) 3
    have c4 := cN_le P (lo + 1) 4
    show sum0 acc (((lo + 1) :: upto n (lo + 1)).filterMap (selP P)) = _
    cases hs : selP P (lo + 1) with
    | none =>
      rw [List.filterMap_cons_none hs, sum_sel P hP ok C D hC hD n (lo + 1) acc a1 a2 a3 a4 h (q1 _ b1) (q1 _ b2) (q1 _ b3) (q1 _ b4)]
      have h0 : sN P (lo + 1) = 0 := by
        unfold selP at hs
        by_cases h0 : sN P (lo + 1) = 0
        · exact h0
        · rw [if_neg h0] at hs; cases hs
      rw [sN_zero h0 1, sN_zero h0 2, sN_zero h0 3, sN_zero h0 4]
      simp only [Nat.zero_add]
    | some r =>
      obtain ⟨h1, -, -⟩ := sel_fits P hP ok _ _ hs
      rw [List.filterMap_cons_some hs]
      show sum0 (addR acc r) _ = _
      have e : addR acc r = ⟨0, ((a1 + cN P (lo + 1) 1 : Nat) : Int), ((a2 + cN P (lo + 1) 2 : Nat) : Int), ((a3 + cN P (lo + 1) 3 : Nat) : Int), ((a4 + cN P (lo + 1) 4 : Nat) : Int)⟩ := by
        have d1 := q3 _ b1
        have d2 := q3 _ b2
        have d3 := q3 _ b3
        have d4 := q3 _ b4
        rw [h, h1]
        unfold addR rowI
        simp only
        rw [w64_id (by omega) (by omega), w64_id (by omega) (by omega), w64_id (by omega) (by omega), w64_id (by omega) (by omega)]
        push_cast
        rfl
      rw [sum_sel P hP ok C D hC hD n (lo + 1) _ _ _ _ _ e (q2 _ _ c1 b1) (q2 _ _ c2 b2) (q2 _ _ c3 b3) (q2 _ _ c4 b4)]
      simp only [Nat.add_assoc]
def kN (P : List Pr) (k : Int) : Nat := P.countP (fun x => decide (x.2 = k))
theorem rN_all (P : List Pr) (ok : ∀ x ∈ P, okP x) (k : Int) : rN P 0 14 k = kN P k := by
  unfold rN kN
  apply List.countP_congr
  intro x hx
  have := ok x hx
  unfold okP at this
  simp
  omega
theorem kN_sum : ∀ (P : List Pr), (∀ x ∈ P, okP x) → kN P 1 + kN P 2 + kN P 3 + kN P 4 = P.length
  | [], _ => rfl
  | x :: P, h => by
    have ih := kN_sum P (fun y hy => h y (List.mem_cons_of_mem _ hy))
    have hx := h x (by simp)
    unfold okP at hx
    unfold kN at ih ⊢
    simp only [List.countP_cons, List.length_cons]
    have : x.2 = 1 ∨ x.2 = 2 ∨ x.2 = 3 ∨ x.2 = 4 := by omega
    rcases this with e | e | e | e <;> simp [e] <;> omega
theorem sum_tab (P : List Pr) (hP : P.length ≤ 1000000) (ok : ∀ x ∈ P, okP x) : sumR (tabP P) = ⟨0, kN P 1, kN P 2, kN P 3, kN P 4⟩ := by
  have h := sum_sel P hP ok 100000000 1000000 (by omega) rfl 14 0 z5 0 0 0 0 rfl (by omega) (by omega) (by omega) (by omega)
  have e : (0 : Int) + ((14 : Nat) : Int) = 14 := by omega
  rw [e, rN_all P ok 1, rN_all P ok 2, rN_all P ok 3, rN_all P ok 4] at h
  show sum0 z5 ((upto 14 0).filterMap (selP P)) = _
  simpa using h
theorem tot_tab (P : List Pr) (hP : P.length ≤ 1000000) (ok : ∀ x ∈ P, okP x) : totR (sumR (tabP P)) = (P.length : Int) := by
  have hs := kN_sum P ok
  rw [sum_tab P hP ok]
  unfold totR
  simp only
  rw [w64_id (n := (kN P 1 : Int) + kN P 2) (by omega) (by omega), w64_id (n := (kN P 1 : Int) + kN P 2 + kN P 3) (by omega) (by omega), w64_id (by omega) (by omega)]
  omega
end Go.Proofs.Ytcmknnhhbcgoiaa.Pure
