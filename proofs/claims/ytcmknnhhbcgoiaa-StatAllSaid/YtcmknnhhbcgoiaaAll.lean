/- StatAll's walk: it returns true for every input. -/
import Derived.Test.YtcmknnhhbcgoiaaPureAll
import Derived.Test.YtcmknnhhbcgoiaaKnown
import Derived.Outline
namespace Go.Proofs.Ytcmknnhhbcgoiaa.QN
open Go.RowKit Go.Proofs.YtcmknnhhbcgoiaaW.PrintWords Go.Proofs.YtcmknnhhbcgoiaaW.PrintLast Go.Proofs.YtcmknnhhbcgoiaaW.PrintMore
set_option linter.unusedVariables false
set_option linter.unusedSimpArgs false
set_option maxHeartbeats 4000000 in
set_option maxRecDepth 100000 in
theorem StatAll_calls (A0 : Option Addr) (c0 : Nat) (l : List S67) (A1 : Option Addr) (c1 : Nat) (v : List SV) (w : World) (hC : Kd.C k67 w A0 l.length l) (hc : l.length ≤ c0) (hV : Kd.C kV w A1 v.length v) (hc1 : v.length ≤ c1) :
    Calls Try.prog 5 #[.slice A0 l.length c0, .slice A1 v.length c1] w fun e w' => e = .returned (.bool true) ∧ Below w.heap.size w w' := by
  have HMV := Aside0.mk (Kd.C_max hV)
  have HC := Aside0.mk (And.intro hC hc)
  have HV := Aside0.mk (And.intro hV hc1)
  have HB := Aside0.mk (Below.refl w.heap.size w)
  clear hC hc hV hc1
  by_cases hl : 2000 < l.length
  · have c1b : decide (2000 < (l.length : Int)) = true := decide_eq_true (by omega)
    have c1i : (2000 < (l.length : Int)) = True := eq_true (by omega)
    have c1n : (2000 < l.length) = True := eq_true hl
    go_enter Try.func5, Try.ntmps5
    go_wp2_with (go_at_call 9; go_must (refine (changelinglaw25_known.calls true w rfl).mono ?_; rintro e w1 ⟨rfl, hb⟩; have HB1 := Aside0.mk hb; clear hb HB))
    go_ret
    exact ⟨rfl, HB1.out⟩
  have c1b : decide (2000 < (l.length : Int)) = false := decide_eq_false (by omega)
  have c1i : (2000 < (l.length : Int)) = False := eq_false (by omega)
  have c1n : (2000 < l.length) = False := eq_false hl
  cases hR : CountF l v with
  | none =>
    have hG : CountG l v = ([], 1) := by unfold CountG; rw [hR]
    clear hl hR
    go_enter Try.func5, Try.ntmps5
    go_wp2_with (first | (go_at_call 10; go_must (refine (stat_Count.calls A0 c0 l A1 c1 v w HC.out.1 HC.out.2 HV.out.1 HV.out.2).mono ?_; rw [hG]; rintro e w1 ⟨vc, rfl, -, hb⟩; have HB1 := Aside0.mk hb; clear hb HB)) | (go_at_call 9; go_must (refine (changelinglaw25_known.calls true w1 rfl).mono ?_; rintro e w2 ⟨rfl, hb⟩; have HB2 := Aside0.mk (below_then HB1.out HB1.out.size hb); clear hb HB1)))
    go_ret
    exact ⟨rfl, HB2.out⟩
  | some t =>
    have hG : CountG l v = (t, 0) := by unfold CountG; rw [hR]
    obtain ⟨hlv, hS⟩ := Pure.score_tab l v (by omega) t hR
    have HLV := Aside0.mk hlv
    have HS := Aside0.mk hS
    clear hl hR hlv hS
    go_enter Try.func5, Try.ntmps5
    go_upto_block 0 with (first | (go_at_call 10; go_must (refine (stat_Count.calls A0 c0 l A1 c1 v w HC.out.1 HC.out.2 HV.out.1 HV.out.2).mono ?_; rw [hG]; rintro e w1 ⟨vc, rfl, hR3, hb⟩; obtain ⟨Ac, cc, rfl, hcc, hCc⟩ := Kd.R_reads hR3; have HC3 := Aside0.mk (And.intro hCc hcc); have HB1 := Aside0.mk hb; clear hb HB hR3 hcc hCc)) | (go_at_call 17; go_must (refine (stat_Score.calls 3000 Ac cc t _ _ w1 HC3.out.1 HC3.out.2 HS.out).mono ?_; rintro e w2 ⟨rfl, hb⟩; have HB2 := Aside0.mk (below_then HB1.out HB1.out.size hb); clear hb HB1 HC3)))
    go_cut [9] (fun v9 wc => v9 = .int .i64 (Pure.vK v : Int) ∧ Aside0 (Below w.heap.size w wc))
    case first =>
      go_wp2
      go_loopg [9, 10] v.length (fun kq v9 v10 w' => ∃ m : Nat, v10 = .int .i64 (m : Int) ∧ v9 = .int .i64 (Pure.vK (v.take m) : Int) ∧ Aside0 (m + kq = v.length) ∧ Aside0 (Below w.heap.size w w'))
      case atStart => exact ⟨0, rfl, rfl, ⟨by omega⟩, HB2⟩
      case round =>
        clear HB2
        obtain ⟨m, rfl, rfl, HI, HB⟩ := hrel
        cases gk with
        | zero =>
          obtain rfl : m = v.length := by have := HI.out; omega
          rw [List.take_length]
          go_wp2
          go_meet
          case rel => exact ⟨rfl, HB⟩
        | succ kq =>
          have HM : Aside0 (m < v.length) := ⟨by have := HI.out; omega⟩
          have d1b : decide ((m : Int) < (v.length : Int)) = true := decide_eq_true (by have := HM.out; omega); have d1i : ((m : Int) < (v.length : Int)) = True := eq_true (by have := HM.out; omega); have d1n : (m < v.length) = True := eq_true HM.out
          have p0 : (0 ≤ (m : Int)) = True := eq_true (by omega)
          have hw1 : wrap64 ((m : Int) + 1) = (m : Int) + 1 := by have := HM.out; have := HMV.out; unfold wrap64; omega
          have HT := Aside0.mk (Pure.vK_take v m HM.out)
          have hw2 : wrap64 ((Pure.vK (v.take m) : Int) + 1) = (Pure.vK (v.take m) : Int) + 1 := by
            have h1 : Pure.vK (v.take m) ≤ (v.take m).length := List.countP_le_length
            rw [List.length_take] at h1
            have := HM.out; have := HMV.out; unfold wrap64; omega
          obtain ⟨av, ev, hy0, hy1, -⟩ := at_TV (Kd.C_below HV.out.1 HB.out) (m : Int) (by omega) (by have := HM.out; omega)
          subst ev
          simp only [Int.toNat_natCast] at hy0 hy1
          by_cases hk : (rd_TV v (m : Int)).f1 = 1
          · have e1 : ((rd_TV v (m : Int)).f1 == 1) = true := beq_iff_eq.mpr hk
            rw [if_pos hk] at HT
            go_wp2
            go_roundg kq
            case measure => omega
            case rel => exact ⟨m + 1, by push_cast; rw [hw1], by rw [HT.out]; push_cast; rw [hw2], ⟨by have := HI.out; omega⟩, HB⟩
          · have e1 : ((rd_TV v (m : Int)).f1 == 1) = false := beq_eq_false_iff_ne.mpr hk
            rw [if_neg hk] at HT
            go_wp2
            go_roundg kq
            case measure => omega
            case rel => exact ⟨m + 1, by push_cast; rw [hw1], by rw [HT.out]; rfl, ⟨by have := HI.out; omega⟩, HB⟩
    case rest =>
      clear HB2
      obtain ⟨rfl, HB⟩ := hcut
      go_wp2_with (go_at_call 9; go_must (refine (changelinglaw25_known.calls true wc rfl).mono ?_; rintro e w4 ⟨rfl, hb⟩; have HB4 := Aside0.mk (below_then HB.out HB.out.size hb); clear hb HB))
      go_ret
      exact ⟨rfl, HB4.out⟩
end Go.Proofs.Ytcmknnhhbcgoiaa.QN
