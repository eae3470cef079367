/- The plain law of StatCounts: the document's rows are the program's; what may not be counted is refused by both. -/
import Derived.Test.YtcmknnhhbcgoiaaPureAll
import Derived.Test.YtcmknnhhbcgoiaaPureRows
import Derived.Test.YtcmknnhhbcgoiaaRCn
namespace Go.Proofs.Ytcmknnhhbcgoiaa.Pure
open Go.RowKit Go.Proofs.Ytcmknnhhbcgoiaa.QN Go.Proofs.YtcmknnhhbcgoiaaW.PrintWords Go.Proofs.YtcmknnhhbcgoiaaW.PrintLast
set_option linter.unusedVariables false
set_option linter.unusedSimpArgs false
theorem cnt_okAll : ∀ (l : List S67) (v : List SV) (i : Nat) (all : List S42), l.length = v.length → (cnt i all l v).isSome = okAll i l v
  | [], [], i, all, _ => rfl
  | [], x :: v, i, all, h => by simp at h
  | m :: l, [], i, all, h => by simp at h
  | m :: l, x :: v, i, all, h => by
    unfold cnt okAll
    by_cases hc : cok i m x = true
    · rw [if_pos hc, cnt_okAll l v (i + 1) _ (by simpa using h), hc]; rfl
    · rw [if_neg hc]
      have : cok i m x = false := by simpa using hc
      rw [this]; rfl
theorem wrong_none (l : List S67) (v : List SV) : wrongB l v = (CountF l v).isNone := by
  unfold wrongB CountF
  by_cases h : l.length = v.length
  · rw [if_pos h, if_pos h, ← cnt_okAll l v 0 (List.replicate 15 z42) h]
    cases cnt 0 (List.replicate 15 z42) l v <;> rfl
  · rw [if_neg h, if_neg h]; rfl
def nP (P : List Pr) (op : Int) : List Int := [cN P op 1, cN P op 2, cN P op 3, cN P op 4]
theorem nP_snoc (P : List Pr) (hP : P.length ≤ 1000000) (op : Int) (k : Int) (hk : 1 ≤ k ∧ k ≤ 4) : (nP P op).set (k - 1).toNat (wrap64 (rd (nP P op) (k - 1) + 1)) = nP (P ++ [(op, k)]) op := by
  have l1 := cN_le P op 1
  have l2 := cN_le P op 2
  have l3 := cN_le P op 3
  have l4 := cN_le P op 4
  have w : ∀ c : Nat, c ≤ P.length → wrap64 ((c : Int) + 1) = ((c + 1 : Nat) : Int) := fun c hc => by rw [w64_id (by omega) (by omega)]; push_cast; rfl
  unfold nP
  simp only [cN_snoc, true_and]
  have : k = 1 ∨ k = 2 ∨ k = 3 ∨ k = 4 := by omega
  rcases this with rfl | rfl | rfl | rfl
  · show [wrap64 ((cN P op 1 : Int) + 1), _, _, _] = _
    rw [w _ l1]; simp
  · show [_, wrap64 ((cN P op 2 : Int) + 1), _, _] = _
    rw [w _ l2]; simp
  · show [_, _, wrap64 ((cN P op 3 : Int) + 1), _] = _
    rw [w _ l3]; simp
  · show [_, _, _, wrap64 ((cN P op 4 : Int) + 1)] = _
    rw [w _ l4]; simp
theorem nP_skip (P : List Pr) (op : Int) (x : Pr) (h : x.1 ≠ op) : nP (P ++ [x]) op = nP P op := by
  unfold nP
  simp [cN_snoc, h]
theorem rd_fst (P : List Pr) (i : Nat) (h : i < P.length) : rd (P.map (·.1)) (i : Int) = P[i].1 := by simp [rd, h]
theorem rd_snd (P : List Pr) (i : Nat) (h : i < P.length) : rd (P.map (·.2)) (i : Int) = P[i].2 := by simp [rd, h]
def afterRow (k : Nat) (P : List Pr) (out : List S74) (op : Int) : Option (List S74) := if (sN P op : Int) > 0 then (if out.length < 4398046511104 then changelingref25_Rows.l0 k (P.map (·.1)) (P.map (·.2)) (out ++ [(⟨op, nP P op⟩ : S74)]) (wrap64 (op + 1)) else none) else changelingref25_Rows.l0 k (P.map (·.1)) (P.map (·.2)) out (wrap64 (op + 1))
theorem rows_l1 (P : List Pr) (hP : P.length ≤ 1000000) (ok : ∀ x ∈ P, okP x) (out : List S74) (op : Int) : ∀ (d k i : Nat), i + d = P.length → changelingref25_Rows.l1 (k + d + 1) (P.map (·.1)) (P.map (·.2)) out op (nP (P.take i) op) (sN (P.take i) op) (i : Int) = afterRow k P out op
  | 0, k, i, h => by
    simp only [changelingref25_Rows.l1]
    rw [if_neg (by simp; omega), List.take_of_length_le (by omega)]
    rfl
  | d + 1, k, i, h => by
    have hi : i < P.length := by omega
    have ih := rows_l1 P hP ok out op d k (i + 1) (by omega)
    have e1 : wrap64 ((i : Int) + 1) = ((i + 1 : Nat) : Int) := by rw [w64_id (by omega) (by omega)]; push_cast; rfl
    have et : P.take (i + 1) = P.take i ++ [P[i]] := (List.take_append_getElem hi).symm
    have hx := ok _ (List.getElem_mem hi)
    unfold okP at hx
    have hlt : (P.take i).length ≤ 1000000 := by rw [List.length_take]; omega
    have hsn : sN (P.take i) op ≤ (P.take i).length := List.countP_le_length
    show changelingref25_Rows.l1 ((k + d + 1) + 1) _ _ out op _ _ (i : Int) = _
    simp only [changelingref25_Rows.l1]
    rw [if_pos (by simp; omega), if_pos (by omega), rd_fst P i hi, rd_snd P i hi, e1]
    rw [et] at ih
    by_cases ho : P[i].1 = op
    · have hk : wrap64 (P[i].2 - 1) = P[i].2 - 1 := w64_id (by omega) (by omega)
      rw [if_pos ho, if_pos (by simp; omega), hk, if_pos (by omega), if_pos (by simp [nP]; omega), nP_snoc _ hlt op P[i].2 (by omega)]
      have e2 : (op, P[i].2) = P[i] := by rw [← ho]
      have e3 : wrap64 ((sN (P.take i) op : Int) + 1) = ((sN (P.take i ++ [P[i]]) op : Nat) : Int) := by
        rw [sN_snoc, if_pos ho, w64_id (by omega) (by omega)]; push_cast; rfl
      rw [e2, e3]
      exact ih
    · rw [if_neg ho]
      rw [nP_skip _ op _ ho, sN_snoc, if_neg ho] at ih
      exact ih
theorem rows_l0' (P : List Pr) (hP : P.length ≤ 1000000) (ok : ∀ x ∈ P, okP x) : ∀ (n k : Nat) (lo : Int) (out : List S74), lo + n = 14 → 0 ≤ lo → n * (P.length + 2) + 1 ≤ k → out.length + n ≤ 14 → changelingref25_Rows.l0 k (P.map (·.1)) (P.map (·.2)) out (lo + 1) = some (out ++ ((upto n lo).filterMap (selP P)).map toRow)
  | 0, k, lo, out, h, h0, hk, ho => by
    obtain ⟨k, rfl⟩ : ∃ k', k = k' + 1 := ⟨k - 1, by omega⟩
    simp only [changelingref25_Rows.l0]
    rw [if_neg (by omega)]
    simp [upto]
  | n + 1, k, lo, out, h, h0, hk, ho => by
    rw [Nat.succ_mul] at hk
    obtain ⟨k, rfl⟩ : ∃ k', k = (k' + P.length + 1) + 1 := ⟨k - P.length - 2, by omega⟩
    have e1 : wrap64 (lo + 1 + 1) = lo + 1 + 1 := w64_id (by omega) (by omega)
    simp only [changelingref25_Rows.l0]
    rw [if_pos (by omega)]
    have h1 := rows_l1 P hP ok out (lo + 1) P.length k 0 (by omega)
    have e0 : nP (P.take 0) (lo + 1) = [0, 0, 0, 0] := rfl
    have e00 : (sN (P.take 0) (lo + 1) : Int) = 0 := rfl
    rw [e0, e00] at h1
    refine h1.trans ?_
    unfold afterRow
    rw [e1]
    show _ = some (out ++ (((lo + 1) :: upto n (lo + 1)).filterMap (selP P)).map toRow)
    by_cases hs : sN P (lo + 1) = 0
    · rw [if_neg (by omega), List.filterMap_cons_none (by unfold selP; rw [if_pos hs])]
      exact rows_l0' P hP ok n k (lo + 1) out (by omega) (by omega) (by omega) (by omega)
    · rw [if_pos (by omega), if_pos (by omega), List.filterMap_cons_some (b := rowI P (lo + 1)) (by unfold selP; rw [if_neg hs])]
      rw [rows_l0' P hP ok n k (lo + 1) _ (by omega) (by omega) (by omega) (by simp only [List.length_append, List.length_cons, List.length_nil]; omega)]
      have er : toRow (rowI P (lo + 1)) = ⟨lo + 1, nP P (lo + 1)⟩ := by
        unfold toRow rowI nL nP
        simp only
        rw [if_neg hs]
      rw [List.map_cons, er, List.append_assoc]
      rfl
theorem refRows_f (P : List Pr) (hP : P.length ≤ 2000) (ok : ∀ x ∈ P, okP x) : changelingref25_Rows.f 40000 (P.map (·.1)) (P.map (·.2)) = some ((tabP P).map toRow) := by
  have h := rows_l0' P (by omega) ok 14 40000 0 [] (by omega) (by omega) (by omega) (by simp)
  unfold changelingref25_Rows.f
  simpa [tabP] using h
theorem zip_fst : ∀ (l : List S67) (v : List SV), l.length = v.length → (zipP l v).map (·.1) = l.map (·.f1)
  | [], [], _ => rfl
  | [], x :: v, h => by simp at h
  | m :: l, [], h => by simp at h
  | m :: l, x :: v, h => by
    have ih := zip_fst l v (by simpa using h)
    simp only [zipP, List.zipWith_cons_cons, List.map_cons] at ih ⊢
    rw [ih]
theorem zip_snd : ∀ (l : List S67) (v : List SV), l.length = v.length → (zipP l v).map (·.2) = v.map (·.f1)
  | [], [], _ => rfl
  | [], x :: v, h => by simp at h
  | m :: l, [], h => by simp at h
  | m :: l, x :: v, h => by
    have ih := zip_snd l v (by simpa using h)
    simp only [zipP, List.zipWith_cons_cons, List.map_cons] at ih ⊢
    rw [ih]
/-- All that StatCounts asks, where the verdicts may be counted. -/
theorem counts_yes (l : List S67) (v : List SV) (hl : l.length ≤ 2000) (t : List S42) (h : CountF l v = some t) :
    l.length = v.length ∧ wrongB l v = false ∧ changelinglaw25_rows.f 100 t = some (t.map toRow) ∧ changelingref25_Rows.f 40000 (l.map (·.f1)) (v.map (·.f1)) = some (t.map toRow) ∧ changelinglaw25_same.f 100 (t.map toRow) (t.map toRow) = some true ∧ stat_Right.f 100 t = some true := by
  obtain ⟨h1, h2, ok⟩ := count_tab l v hl t h
  have hz := zipP_len l v h1
  have hlen := tabP_len (zipP l v)
  rw [← h2] at hlen
  refine ⟨h1, by rw [wrong_none, h]; rfl, rows_f t (by omega) _ (by omega), ?_, same_f t (by omega) _ (by omega), ?_⟩
  · rw [← zip_fst l v h1, ← zip_snd l v h1, refRows_f _ (by omega) ok, ← h2]
  · rw [right_f t (by omega) _ (by omega), h2, tabP_right _ (by omega) ok]
end Go.Proofs.Ytcmknnhhbcgoiaa.Pure
