/- The plain law of a table's text: the document's sum, lines and text are the program's. -/
import Derived.Test.YtcmknnhhbcgoiaaPureTx
import Derived.Test.YtcmknnhhbcgoiaaPureRefS
import Derived.Test.YtcmknnhhbcgoiaaQN11
namespace Go.Proofs.Ytcmknnhhbcgoiaa.Pure
open Go.RowKit Go.Proofs.Ytcmknnhhbcgoiaa.QN Go.Proofs.YtcmknnhhbcgoiaaW.PrintWords Go.Proofs.YtcmknnhhbcgoiaaW.PrintLast
set_option linter.unusedVariables false
set_option linter.unusedSimpArgs false
/-! ### the document's Sum -/
theorem refSum_row (l : List S42) (acc : S42) (i : Nat) (hi : i < l.length) (k : Nat) : changelingref25_Sum.l1 (k + 5) (l.map toRow) (nL acc) (i : Int) 0 = changelingref25_Sum.l0 k (l.map toRow) (nL (addR acc (rd_T42 l (i : Int)))) (wrap64 ((i : Int) + 1)) := by
  have st : ∀ (k : Nat) (n : List Int) (j : Nat), j < 4 → n.length = 4 → changelingref25_Sum.l1 (k + 1) (l.map toRow) n (i : Int) (j : Int) = changelingref25_Sum.l1 k (l.map toRow) (n.set j (wrap64 (rd n (j : Int) + rd (nL (rd_T42 l (i : Int))) (j : Int)))) (i : Int) ((j + 1 : Nat) : Int) := fun k n j hj hn => by
    have e1 : wrap64 ((j : Int) + 1) = ((j + 1 : Nat) : Int) := by rw [w64_id (by omega) (by omega)]; push_cast; rfl
    simp only [changelingref25_Sum.l1]
    rw [if_pos (by omega), if_pos (by omega), if_pos (by omega), if_pos (by omega), if_pos (by simp; omega), rd_map l i hi, if_pos (by simp [toRow, nL]; omega), e1]
    rfl
  have h0 := st (k + 4) (nL acc) 0 (by omega) rfl
  have h1 := fun n => st (k + 3) n 1 (by omega)
  have h2 := fun n => st (k + 2) n 2 (by omega)
  have h3 := fun n => st (k + 1) n 3 (by omega)
  refine h0.trans ((h1 _ (by simp [nL])).trans ((h2 _ (by simp [nL])).trans ((h3 _ (by simp [nL])).trans ?_)))
  simp only [changelingref25_Sum.l1]
  rw [if_neg (by decide)]
  rfl
theorem refSum_l0 (l : List S42) (hl : l.length ≤ 100000) : ∀ (m k i : Nat) (acc : S42), i + m = l.length → 6 * m + 2 ≤ k → changelingref25_Sum.l0 k (l.map toRow) (nL acc) (i : Int) = some (nL (sum0 acc (l.drop i)))
  | m, 0, _, _, _, h => absurd h (by omega)
  | 0, k + 1, i, acc, h, hk => by
    simp only [changelingref25_Sum.l0]
    rw [if_neg (by simp; omega), List.drop_eq_nil_of_le (by omega)]
    rfl
  | m + 1, k + 1, i, acc, h, hk => by
    obtain ⟨k, rfl⟩ : ∃ k', k = k' + 5 := ⟨k - 5, by omega⟩
    have ih := refSum_l0 l hl m k (i + 1) (addR acc (rd_T42 l (i : Int))) (by omega) (by omega)
    have e1 : wrap64 ((i : Int) + 1) = ((i + 1 : Nat) : Int) := by rw [w64_id (by omega) (by omega)]; push_cast; rfl
    simp only [changelingref25_Sum.l0]
    rw [if_pos (by simp; omega), refSum_row l acc i (by omega) k, e1, ih, drop_T42 l i (by omega)]
    rfl
theorem refSum_f (l : List S42) (hl : l.length ≤ 100000) (k : Nat) (hk : 6 * l.length + 2 ≤ k) : changelingref25_Sum.f k (l.map toRow) = some (nL (sumR l)) :=
  refSum_l0 l hl l.length k 0 z5 (by omega) hk
/-! ### the document's line -/
def ba (l : List UInt8) : ByteArray := ⟨l.toArray⟩
theorem ba_app (a b : List UInt8) : ba a ++ ba b = ba (a ++ b) := by
  apply ByteArray.ext
  simp [ba]
theorem ba_of (s : ByteArray) : s = ba s.data.toList := by
  apply ByteArray.ext
  simp [ba]
theorem ba_size (a : List UInt8) : (ba a).size = a.length := by simp [ba, ByteArray.size]
theorem refLine_step (n : List Int) (hn : n.length = 4) (x : List UInt8) (hx : x.length ≤ 1000000000) (i : Nat) (hi : i < 4) (hr : inR (rd n (i : Int))) (k : Nat) (hk : 40 ≤ k) :
    changelingref25_line.l0 (k + 1) n (ba x) (i : Int) = changelingref25_line.l0 k n (ba (x ++ (spB.data.toList ++ (tU (rd n (i : Int))).data.toList))) ((i + 1 : Nat) : Int) := by
  have e1 : wrap64 ((i : Int) + 1) = ((i + 1 : Nat) : Int) := by rw [w64_id (by omega) (by omega)]; push_cast; rfl
  have hs := tU_size (rd n (i : Int))
  simp only [changelingref25_line.l0]
  rw [if_pos (by omega), if_pos (by rw [ba_size]; omega), if_pos (by omega), ref_text hr (by omega)]
  simp only [Option.bind_some]
  show (if (ba x ++ ba [32]).size + (tU (rd n (i : Int))).size ≤ 9223372036854775807 then changelingref25_line.l0 k n ((ba x ++ ba [32]) ++ tU (rd n (i : Int))) (wrap64 ((i : Int) + 1)) else none) = _
  rw [e1, ba_app, if_pos (by rw [ba_size, List.length_append]; simp only [List.length_cons, List.length_nil]; omega)]
  conv => lhs; rw [ba_of (tU (rd n (i : Int))), ba_app, List.append_assoc]
theorem tU_len (n : Int) : (tU n).data.toList.length ≤ 100 := by
  have := tU_size n
  rw [ba_of (tU n), ba_size] at this
  exact this
theorem refLine_f (nm : ByteArray) (hnm : nm.size ≤ 100) (r : S42) (hr : rowIn r) (k : Nat) (hk : 100 ≤ k) : changelingref25_line.f k nm (nL r) = some (ba (lineU tU nm r)) := by
  obtain ⟨k, rfl⟩ : ∃ k', k = k' + 5 := ⟨k - 5, by omega⟩
  have hl : nm.data.toList.length ≤ 100 := by
    rw [ba_of nm, ba_size] at hnm; exact hnm
  have l1 := tU_len r.f1
  have l2 := tU_len r.f2
  have l3 := tU_len r.f3
  have hsp : spB.data.toList.length = 1 := rfl
  have hs0 : ([32] : List UInt8).length = 1 := rfl
  unfold changelingref25_line.f
  rw [ba_of nm]
  have h0 := refLine_step (nL r) rfl nm.data.toList (by omega) 0 (by omega) hr.1 (k + 4) (by omega)
  have h1 := refLine_step (nL r) rfl (nm.data.toList ++ (spB.data.toList ++ (tU r.f1).data.toList)) (by simp only [List.length_append, hsp, hs0]; omega) 1 (by omega) hr.2.1 (k + 3) (by omega)
  have h2 := refLine_step (nL r) rfl (nm.data.toList ++ (spB.data.toList ++ (tU r.f1).data.toList) ++ (spB.data.toList ++ (tU r.f2).data.toList)) (by simp only [List.length_append, hsp, hs0]; omega) 2 (by omega) hr.2.2.1 (k + 2) (by omega)
  have h3 := refLine_step (nL r) rfl (nm.data.toList ++ (spB.data.toList ++ (tU r.f1).data.toList) ++ (spB.data.toList ++ (tU r.f2).data.toList) ++ (spB.data.toList ++ (tU r.f3).data.toList)) (by simp only [List.length_append, hsp, hs0]; omega) 3 (by omega) hr.2.2.2 (k + 1) (by omega)
  have l4 := tU_len r.f4
  refine h0.trans (h1.trans (h2.trans (h3.trans ?_)))
  show changelingref25_line.l0 (k + 1) (nL r) (ba (nm.data.toList ++ (spB.data.toList ++ (tU r.f1).data.toList) ++ (spB.data.toList ++ (tU r.f2).data.toList) ++ (spB.data.toList ++ (tU r.f3).data.toList) ++ (spB.data.toList ++ (tU r.f4).data.toList))) ((4 : Nat) : Int) = _
  simp only [changelingref25_line.l0]
  rw [if_neg (by simp [nL]), if_pos (by rw [ba_size]; simp only [List.length_append, hsp, hs0]; omega)]
  show some (_ ++ ba [10]) = _
  rw [ba_app]
  congr 2
  unfold lineU
  rw [← ba_of nm]
  simp [nlB]
/-! ### the document's Text -/
theorem names_at (op : Int) (h : 1 ≤ op ∧ op ≤ 14) : ∃ t, changelingref21_Names.f = some t ∧ t.length = 14 ∧ rdOf ByteArray.empty t (op - 1) = nmU op := by
  refine ⟨_, rfl, rfl, ?_⟩
  have : op = 1 ∨ op = 2 ∨ op = 3 ∨ op = 4 ∨ op = 5 ∨ op = 6 ∨ op = 7 ∨ op = 8 ∨ op = 9 ∨ op = 10 ∨ op = 11 ∨ op = 12 ∨ op = 13 ∨ op = 14 := by omega
  rcases this with rfl | rfl | rfl | rfl | rfl | rfl | rfl | rfl | rfl | rfl | rfl | rfl | rfl | rfl <;> rfl
theorem lineU_le (nm : ByteArray) (hnm : nm.size ≤ 100) (r : S42) : (lineU tU nm r).length ≤ 505 := lineU_len tU nm r (fun n _ => tU_size n) hnm
theorem refText_l0 (l : List S42) (hl : l.length ≤ 1000) (hf : ∀ r ∈ l, fitsB r = true) : ∀ (m k i : Nat), i + m = l.length → m + 7000 ≤ k → changelingref25_Text.l0 k (l.map toRow) (ba (linesU tU nmU (l.take i))) (i : Int) = some (ba (linesU tU nmU l ++ lineU tU sumNm (sumR l)))
  | m, 0, _, _, h => absurd h (by omega)
  | 0, k + 1, i, h, hk => by
    have hlen := linesU_len tU nmU l (fun r hr => ⟨fun n _ => tU_size n, (nmU_ok r.f0 (fits_op (hf r hr))).2⟩)
    have hlu := lineU_le sumNm (by decide) (sumR l)
    simp only [changelingref25_Text.l0]
    rw [if_neg (by simp; omega), refSum_f l (by omega) k (by omega), List.take_of_length_le (by omega)]
    simp only [Option.bind_some]
    rw [show (⟨#[115, 117, 109]⟩ : ByteArray) = sumNm from rfl, refLine_f sumNm (by decide) (sumR l) (sumR_in l) k (by omega)]
    simp only [Option.bind_some]
    rw [if_pos (by rw [ba_size, ba_size]; omega), ba_app]
  | m + 1, k + 1, i, h, hk => by
    have ih := refText_l0 l hl hf m k (i + 1) (by omega) (by omega)
    rw [← linesU_take tU nmU l i (by omega)] at ih
    have hm : rd_T42 l (i : Int) ∈ l := by
      have e : rd_T42 l (i : Int) = l[i]'(by omega) := by simp [rd_T42, show i < l.length by omega]
      rw [e]; exact List.getElem_mem _
    have hop := fits_op (hf _ hm)
    obtain ⟨t, ht, htl, hte⟩ := names_at _ hop
    have hnm := (nmU_ok _ hop).2
    have e1 : wrap64 ((i : Int) + 1) = ((i + 1 : Nat) : Int) := by rw [w64_id (by omega) (by omega)]; push_cast; rfl
    have e2 : wrap64 ((rd_T42 l (i : Int)).f0 - 1) = (rd_T42 l (i : Int)).f0 - 1 := w64_id (by omega) (by omega)
    have hlen := linesU_len tU nmU (l.take i) (fun r hr => ⟨fun n _ => tU_size n, (nmU_ok r.f0 (fits_op (hf r (List.mem_of_mem_take hr)))).2⟩)
    have hti : (l.take i).length ≤ 1000 := by rw [List.length_take]; omega
    have hlu := lineU_le _ hnm (rd_T42 l (i : Int))
    simp only [changelingref25_Text.l0]
    rw [if_pos (by simp; omega), ht]
    simp only [Option.bind_some]
    rw [if_pos (by omega), rd_map l i (by omega)]
    show (if 0 ≤ wrap64 ((rd_T42 l (i : Int)).f0 - 1) then if wrap64 ((rd_T42 l (i : Int)).f0 - 1) < (t.length : Int) then (changelingref25_line.f k (rdOf ByteArray.empty t (wrap64 ((rd_T42 l (i : Int)).f0 - 1))) (nL (rd_T42 l (i : Int)))).bind _ else none else none) = _
    rw [e2, if_pos (by omega), if_pos (by omega), hte, refLine_f _ hnm _ (fits_in (hf _ hm)) k (by omega)]
    simp only [Option.bind_some]
    rw [if_pos (by rw [ba_size, ba_size]; omega), ba_app, e1]
    exact ih
theorem refText_f (l : List S42) (hl : l.length ≤ 1000) (k : Nat) (hk : 9000 ≤ k) : changelingref25_Text.f k (l.map toRow) = some (textB l) := by
  unfold changelingref25_Text.f textB
  rw [refRight_f l hl k (by omega)]
  simp only [Option.bind_some]
  by_cases h : rightB 0 l = true
  · rw [if_pos h, if_pos h]
    exact refText_l0 l hl (right_srt l 0 h).2 l.length k 0 (by omega) (by omega)
  · rw [if_neg h, if_neg h]
end Go.Proofs.Ytcmknnhhbcgoiaa.Pure
