/- The text of a table, as the program makes it, in plain words; stat.Text's contract in the form of the printed ones. -/
import Derived.Test.YtcmknnhhbcgoiaaPureDec
import Derived.Test.YtcmknnhhbcgoiaaQN4
import Derived.Test.YtcmknnhhbcgoiaaText
namespace Go.Proofs.Ytcmknnhhbcgoiaa.Pure
open Go.RowKit Go.Proofs.Ytcmknnhhbcgoiaa.QN Go.Proofs.YtcmknnhhbcgoiaaW.PrintWords Go.Proofs.YtcmknnhhbcgoiaaW.PrintLast
set_option linter.unusedVariables false
set_option linter.unusedSimpArgs false
/-! ### a table's sum -/
def sum0 (acc : S42) (l : List S42) : S42 := l.foldl addR acc
def z5 : S42 := ⟨0, 0, 0, 0, 0⟩
def sumR (l : List S42) : S42 := sum0 z5 l
theorem sum_l0 (l : List S42) (hl : l.length ≤ 100000) : ∀ (m k i : Nat) (acc : S42), i + m = l.length → m + 2 ≤ k → stat_Sum.l0 k l (l.length : Int) (i : Int) acc.f0 acc.f1 acc.f2 acc.f3 acc.f4 = some ((sum0 acc (l.drop i)).f0, (sum0 acc (l.drop i)).f1, (sum0 acc (l.drop i)).f2, (sum0 acc (l.drop i)).f3, (sum0 acc (l.drop i)).f4)
  | m, 0, _, _, _, h => absurd h (by omega)
  | 0, k + 1, i, acc, h, hk => by
    simp only [stat_Sum.l0]
    rw [if_neg (by omega), List.drop_eq_nil_of_le (by omega)]
    rfl
  | m + 1, k + 1, i, acc, h, hk => by
    have ih := sum_l0 l hl m k (i + 1) (addR acc (rd_T42 l (i : Int))) (by omega) (by omega)
    have e1 : wrap64 ((i : Int) + 1) = ((i + 1 : Nat) : Int) := by rw [w64_id (by omega) (by omega)]; push_cast; rfl
    simp only [stat_Sum.l0, stat_plus.f, Option.bind_some]
    rw [if_pos (by omega), if_pos (by omega), if_pos (by omega), e1, drop_T42 l i (by omega)]
    exact ih
theorem sum_f (l : List S42) (hl : l.length ≤ 100000) (k : Nat) (hk : l.length + 20 ≤ k) : stat_Sum.f k l = if rightB 0 l = true then some ((sumR l).f0, (sumR l).f1, (sumR l).f2, (sumR l).f3, (sumR l).f4) else some (0, 0, 0, 0, 0) := by
  unfold stat_Sum.f
  rw [right_f l (by omega) k (by omega)]
  simp only [Option.bind_some]
  by_cases h : rightB 0 l = true
  · rw [if_pos h, if_pos h]
    exact sum_l0 l hl l.length k 0 z5 (by omega) (by omega)
  · rw [if_neg h, if_neg h]
def inR (n : Int) : Prop := -9223372036854775808 ≤ n ∧ n ≤ 9223372036854775807
theorem w64_in (n : Int) : inR (wrap64 n) := by unfold inR wrap64; omega
def rowIn (r : S42) : Prop := inR r.f1 ∧ inR r.f2 ∧ inR r.f3 ∧ inR r.f4
theorem addR_in (r q : S42) : rowIn (addR r q) := ⟨w64_in _, w64_in _, w64_in _, w64_in _⟩
theorem sum0_in : ∀ (l : List S42) (acc : S42), rowIn acc → rowIn (sum0 acc l)
  | [], _, h => h
  | r :: l, acc, _ => sum0_in l (addR acc r) (addR_in _ _)
theorem sumR_in (l : List S42) : rowIn (sumR l) := sum0_in l z5 (by unfold rowIn inR z5; decide)
theorem sum0_op : ∀ (l : List S42) (acc : S42), (sum0 acc l).f0 = acc.f0
  | [], _ => rfl
  | r :: l, acc => sum0_op l (addR acc r)
theorem fits_in {r : S42} (h : fitsB r = true) : rowIn r := by
  have := of_decide_eq_true h
  unfold rowIn inR
  omega
/-! ### texts -/
def tU (n : Int) : ByteArray := sb (txtL n)
theorem tU_size (n : Int) : (tU n).size ≤ 100 := by
  unfold tU
  rw [sb_size]
  have := dig_length 25 n.natAbs
  unfold txtL
  split <;> simp <;> omega
def nmU (op : Int) : ByteArray := (mutate_Name.f op).getD ⟨#[]⟩
theorem nmU_ok (op : Int) (h : 1 ≤ op ∧ op ≤ 14) : mutate_Name.f op = some (nmU op) ∧ (nmU op).size ≤ 100 := by
  have : op = 1 ∨ op = 2 ∨ op = 3 ∨ op = 4 ∨ op = 5 ∨ op = 6 ∨ op = 7 ∨ op = 8 ∨ op = 9 ∨ op = 10 ∨ op = 11 ∨ op = 12 ∨ op = 13 ∨ op = 14 := by omega
  rcases this with rfl | rfl | rfl | rfl | rfl | rfl | rfl | rfl | rfl | rfl | rfl | rfl | rfl | rfl <;> exact ⟨rfl, by decide +kernel⟩
def textB (l : List S42) : ByteArray := if rightB 0 l = true then ⟨(linesU tU nmU l ++ lineU tU sumNm (sumR l)).toArray⟩ else ⟨#[]⟩
end Go.Proofs.Ytcmknnhhbcgoiaa.Pure
namespace Go.Proofs.Ytcmknnhhbcgoiaa.QN
open Go.RowKit Go.Proofs.YtcmknnhhbcgoiaaW.PrintWords Go.Proofs.YtcmknnhhbcgoiaaW.PrintLast
open Go.Proofs.Ytcmknnhhbcgoiaa
/-- stat.Text, as printed contracts have it. -/
def stat_Text.f (l0 : List S42) : Option ByteArray := if l0.length ≤ 1000 then some (Pure.textB l0) else none
theorem stat_Text.calls (A0 : Option Addr) (c0 : Nat) (l0 : List S42) (r : ByteArray) (w : World) (hr0 : Kd.C k42 w A0 l0.length l0) (hc0 : l0.length ≤ c0) (h : stat_Text.f l0 = some r) :
    Calls Try.prog 18 #[.slice A0 l0.length c0] w fun e w' => e = .returned (.string r) ∧ Below w.heap.size w w' := by
  unfold stat_Text.f at h
  by_cases hl : l0.length ≤ 1000
  · rw [if_pos hl] at h
    obtain rfl : Pure.textB l0 = r := by injection h
    have hR := Pure.right_f l0 (by omega) (l0.length + 20) (by omega)
    unfold Pure.textB
    by_cases hb : Pure.rightB 0 l0 = true
    · rw [if_pos hb]
      rw [hb] at hR
      have hS := Pure.sum_f l0 (by omega) (l0.length + 20) (by omega)
      rw [if_pos hb] at hS
      obtain ⟨_, hfit⟩ := Pure.right_srt l0 0 hb
      have hin := Pure.sumR_in l0
      refine Text_yes A0 c0 l0 (l0.length + 20) 100 (l0.length + 20) (Pure.sumR l0) Pure.tU Pure.nmU w hr0 hc0 hl hR hS ?_ ?_
      · intro n hn
        simp only [List.mem_cons, List.not_mem_nil, or_false] at hn
        refine ⟨Pure.num_text ?_, Pure.tU_size n⟩
        unfold Pure.rowIn Pure.inR at hin
        rcases hn with rfl | rfl | rfl | rfl
        · exact hin.1
        · exact hin.2.1
        · exact hin.2.2.1
        · exact hin.2.2.2
      · intro r hr
        have hf := Pure.fits_in (hfit r hr)
        refine ⟨fun n hn => ⟨Pure.num_text ?_, Pure.tU_size n⟩, Pure.nmU_ok r.f0 (Pure.fits_op (hfit r hr))⟩
        simp only [List.mem_cons, List.not_mem_nil, or_false] at hn
        unfold Pure.rowIn Pure.inR at hf
        rcases hn with rfl | rfl | rfl | rfl
        · exact hf.1
        · exact hf.2.1
        · exact hf.2.2.1
        · exact hf.2.2.2
    · rw [if_neg hb]
      have hb' : Pure.rightB 0 l0 = false := by simpa using hb
      rw [hb'] at hR
      exact Text_no A0 c0 l0 _ w hr0 hc0 hR
  · rw [if_neg hl] at h; cases h
end Go.Proofs.Ytcmknnhhbcgoiaa.QN
