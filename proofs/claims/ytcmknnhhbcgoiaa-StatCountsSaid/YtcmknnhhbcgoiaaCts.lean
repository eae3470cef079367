/- StatCounts' walk: it returns true for every input. -/
import Derived.Test.YtcmknnhhbcgoiaaPureCounts
import Derived.Test.YtcmknnhhbcgoiaaKnown
import Derived.Test.YtcmknnhhbcgoiaaQN4
import Derived.Test.YtcmknnhhbcgoiaaQN5
import Derived.Outline
namespace Go.Proofs.Ytcmknnhhbcgoiaa.QN
open Go.RowKit Go.Proofs.YtcmknnhhbcgoiaaW.PrintWords Go.Proofs.YtcmknnhhbcgoiaaW.PrintLast Go.Proofs.YtcmknnhhbcgoiaaW.PrintMore
set_option linter.unusedVariables false
set_option linter.unusedSimpArgs false
set_option maxHeartbeats 4000000 in
set_option maxRecDepth 100000 in
theorem StatCounts_calls (A0 : Option Addr) (c0 : Nat) (l : List S67) (A1 : Option Addr) (c1 : Nat) (v : List SV) (w : World) (hC : Kd.C k67 w A0 l.length l) (hc : l.length ≤ c0) (hV : Kd.C kV w A1 v.length v) (hc1 : v.length ≤ c1) :
    Calls Try.prog 3 #[.slice A0 l.length c0, .slice A1 v.length c1] w fun e w' => e = .returned (.bool true) ∧ Below w.heap.size w w' := by
  have HC := Aside0.mk (And.intro hC hc)
  have HV := Aside0.mk (And.intro hV hc1)
  have HB := Aside0.mk (Below.refl w.heap.size w)
  clear hC hc hV hc1
  by_cases hl : 2000 < l.length
  · have c1b : decide (2000 < (l.length : Int)) = true := decide_eq_true (by omega)
    have c1i : (2000 < (l.length : Int)) = True := eq_true (by omega)
    have c1n : (2000 < l.length) = True := eq_true hl
    go_enter Try.func3, Try.ntmps3
    go_wp2_with (go_at_call 9; go_must (refine (changelinglaw25_known.calls true w rfl).mono ?_; rintro e w1 ⟨rfl, hb⟩; have HB1 := Aside0.mk hb; clear hb HB))
    go_ret
    exact ⟨rfl, HB1.out⟩
  have c1b : decide (2000 < (l.length : Int)) = false := decide_eq_false (by omega)
  have c1i : (2000 < (l.length : Int)) = False := eq_false (by omega)
  have c1n : (2000 < l.length) = False := eq_false hl
  cases hR : CountF l v with
  | none =>
    have hG : CountG l v = ([], 1) := by unfold CountG; rw [hR]
    have hW : wrongB l v = true := by rw [Pure.wrong_none, hR]; rfl
    clear hl hR
    go_enter Try.func3, Try.ntmps3
    go_wp2_with (first | (go_at_call 10; go_must (refine (stat_Count.calls A0 c0 l A1 c1 v w HC.out.1 HC.out.2 HV.out.1 HV.out.2).mono ?_; rw [hG]; rintro e w1 ⟨vc, rfl, hR3, hb⟩; obtain ⟨Ac, cc, rfl, hcc, hCc⟩ := Kd.R_reads hR3; have HB1 := Aside0.mk hb; clear hb HB hR3 hcc hCc)) | (go_at_call 11; go_must (refine (Wrong_calls A0 c0 l A1 c1 v w1 (Kd.C_below HC.out.1 HB1.out) HC.out.2 (Kd.C_below HV.out.1 HB1.out) HV.out.2).mono ?_; rw [hW]; rintro e w2 ⟨rfl, hb⟩; have HB2 := Aside0.mk (below_then HB1.out HB1.out.size hb); clear hb HB1)) | (go_at_call 9; go_must (refine (changelinglaw25_known.calls true w2 rfl).mono ?_; rintro e w3 ⟨rfl, hb⟩; have HB3 := Aside0.mk (below_then HB2.out HB2.out.size hb); clear hb HB2)))
    go_ret
    exact ⟨rfl, HB3.out⟩
  | some t =>
    have hG : CountG l v = (t, 0) := by unfold CountG; rw [hR]
    obtain ⟨hlv, hW, hrows, hcnt, hsame, hright⟩ := Pure.counts_yes l v (by omega) t hR
    have HLL : Aside0 (l.length = v.length ∧ l.length ≤ 1000000) := ⟨hlv, by omega⟩
    generalize t.map Pure.toRow = rs at hrows hcnt hsame
    have HP := Aside0.mk (And.intro hrows (And.intro hcnt (And.intro hsame hright)))
    clear hl hR hlv hrows hcnt hsame hright
    go_enter Try.func3, Try.ntmps3
    go_wp2_with (first | (go_at_call 10; go_must (refine (stat_Count.calls A0 c0 l A1 c1 v w HC.out.1 HC.out.2 HV.out.1 HV.out.2).mono ?_; rw [hG]; rintro e w1 ⟨vc, rfl, hR3, hb⟩; obtain ⟨Ac, cc, rfl, hcc, hCc⟩ := Kd.R_reads hR3; have HB1 := Aside0.mk hb; have HT1 := Aside0.mk (And.intro hCc hcc); clear hb HB hR3 hcc hCc)) | (go_at_call 11; go_must (refine (Wrong_calls A0 c0 l A1 c1 v w1 (Kd.C_below HC.out.1 HB1.out) HC.out.2 (Kd.C_below HV.out.1 HB1.out) HV.out.2).mono ?_; rw [hW]; rintro e w2 ⟨rfl, hb⟩; have HT2 := Aside0.mk (And.intro (Kd.C_below HT1.out.1 hb) HT1.out.2); have HB2 := Aside0.mk (below_then HB1.out HB1.out.size hb); clear hb HB1 HT1)) | (go_at_call 13; go_must (refine (changelinglaw25_rows.calls 100 Ac cc t _ w2 HT2.out.1 HT2.out.2 HP.out.1).mono ?_; rintro e w3 ⟨v3, rfl, ho, hb⟩; obtain ⟨Ar, cr, rfl, hcr, hCr⟩ := Kd.R_reads (Kd.S_R ho); have HRW3 := Aside0.mk (And.intro hCr hcr); have HT3 := Aside0.mk (And.intro (Kd.C_below HT2.out.1 hb) HT2.out.2); have HB3 := Aside0.mk (below_then HB2.out HB2.out.size hb); clear hb HB2 HT2 ho hcr hCr)) | (go_at_call 14; go_must (refine (refCount_calls A0 c0 l A1 c1 v 40000 _ w3 (Kd.C_below HC.out.1 HB3.out) HC.out.2 (Kd.C_below HV.out.1 HB3.out) HV.out.2 HLL.out.1 HLL.out.2 HP.out.2.1).mono ?_; rintro e w4 ⟨v4, rfl, ho, hb⟩; obtain ⟨Aq, cq, rfl, hcq, hCq⟩ := Kd.R_reads (Kd.S_R ho); have HQ4 := Aside0.mk (And.intro hCq hcq); have HRW4 := Aside0.mk (And.intro (Kd.C_below HRW3.out.1 hb) HRW3.out.2); have HT4 := Aside0.mk (And.intro (Kd.C_below HT3.out.1 hb) HT3.out.2); have HB4 := Aside0.mk (below_then HB3.out HB3.out.size hb); clear hb HB3 HT3 HRW3 ho hcq hCq)) | (go_at_call 12; go_must (refine (changelinglaw25_same.calls 100 Ar cr _ Aq cq _ true w4 HRW4.out.1 HRW4.out.2 HQ4.out.1 HQ4.out.2 HP.out.2.2.1).mono ?_; rintro e w5 ⟨rfl, hd⟩; have HT5 := Aside0.mk (And.intro (Kd.C_below HT4.out.1 hd.below) HT4.out.2); have HB5 := Aside0.mk (below_then HB4.out HB4.out.size hd.below); clear hd HB4 HT4 HRW4 HQ4)) | (go_at_call 15; go_must (refine (stat_Right.calls 100 Ac cc t true w5 HT5.out.1 HT5.out.2 HP.out.2.2.2).mono ?_; rintro e w6 ⟨rfl, hb⟩; have HB6 := Aside0.mk (below_then HB5.out HB5.out.size hb); clear hb HB5 HT5)) | (go_at_call 9; go_must (refine (changelinglaw25_known.calls true w6 rfl).mono ?_; rintro e w7 ⟨rfl, hb⟩; have HB7 := Aside0.mk (below_then HB6.out HB6.out.size hb); clear hb HB6)))
    go_ret
    exact ⟨rfl, HB7.out⟩
end Go.Proofs.Ytcmknnhhbcgoiaa.QN
