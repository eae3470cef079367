/- The document's Wrong and Count, walked: whether mutants and verdicts may be counted, and their table. -/
import Derived.Test.YtcmknnhhbcgoiaaKnd
import Derived.Test.YtcmknnhhbcgoiaaQN12
import Derived.Deep.DeepMust
import Derived.Outline
namespace Go.Proofs.Ytcmknnhhbcgoiaa.QN
open Go.RowKit Go.Proofs.YtcmknnhhbcgoiaaW.PrintWords Go.Proofs.YtcmknnhhbcgoiaaW.PrintLast Go.Proofs.YtcmknnhhbcgoiaaW.PrintMore
set_option linter.unusedVariables false
set_option linter.unusedSimpArgs false
def okAll : Nat → List S67 → List SV → Bool
  | i, m :: l, x :: v => cok i m x && okAll (i + 1) l v
  | _, _, _ => true
def wrongB (l : List S67) (v : List SV) : Bool := if l.length = v.length then !okAll 0 l v else true
set_option maxHeartbeats 4000000 in
set_option maxRecDepth 100000 in
theorem Wrong_calls (A0 : Option Addr) (c0 : Nat) (l : List S67) (A1 : Option Addr) (c1 : Nat) (v : List SV) (w : World) (hC : Kd.C k67 w A0 l.length l) (hc : l.length ≤ c0) (hV : Kd.C kV w A1 v.length v) (hc1 : v.length ≤ c1) :
    Calls Try.prog 11 #[.slice A0 l.length c0, .slice A1 v.length c1] w fun e w' => e = .returned (.bool (wrongB l v)) ∧ Below w.heap.size w w' := by
  have HML := Aside0.mk (Kd.C_max hC)
  have HC := Aside0.mk (And.intro hC hc)
  have HV := Aside0.mk (And.intro hV hc1)
  have HB := Aside0.mk (Below.refl w.heap.size w)
  clear hC hc hV hc1
  unfold wrongB
  by_cases hlv : l.length = v.length
  · rw [if_pos hlv]
    have HLV := Aside0.mk hlv
    have h1 : ((l.length : Int) != (v.length : Int)) = false := by rw [hlv]; exact bne_self_eq_false' ..
    have h2 : ((l.length : Int) == (v.length : Int)) = true := by rw [hlv]; exact beq_self_eq_true ..
    generalize hO : okAll 0 l v = b
    have HO := Aside0.mk hO
    clear hlv hO
    go_enter Try.func11, Try.ntmps11
    go_upto_block 0 with (fail)
    go_cut [5] (fun v5 wc => Aside0 (b = true) ∧ Aside0 (Below w.heap.size w wc))
    case first =>
      go_wp2
      go_loopg [5] l.length (fun kq v5 w' => ∃ m : Nat, v5 = .int .i64 (m : Int) ∧ Aside0 (m + kq = l.length) ∧ Aside0 (okAll m (l.drop m) (v.drop m) = b) ∧ Aside0 (Below w.heap.size w w'))
      case atStart => exact ⟨0, rfl, ⟨by omega⟩, ⟨by simpa using HO.out⟩, HB⟩
      case round =>
        clear HB HO
        obtain ⟨m, rfl, HI, HO, HB⟩ := hrel
        cases gk with
        | zero =>
          obtain rfl : m = l.length := by have := HI.out; omega
          have HT : Aside0 (b = true) := ⟨by have h := HO.out; rw [List.drop_eq_nil_of_le (Nat.le_refl _)] at h; exact h.symm⟩
          go_wp2
          go_meet
          case rel => exact ⟨HT, HB⟩
        | succ kq =>
          have HM : Aside0 (m < l.length) := ⟨by have := HI.out; omega⟩
          have c1b : decide ((m : Int) < (l.length : Int)) = true := decide_eq_true (by have := HM.out; omega); have c1i : ((m : Int) < (l.length : Int)) = True := eq_true (by have := HM.out; omega); have c1n : (m < l.length) = True := eq_true HM.out
          have d1b : decide ((m : Int) < (v.length : Int)) = true := decide_eq_true (by have := HM.out; have := HLV.out; omega); have d1i : ((m : Int) < (v.length : Int)) = True := eq_true (by have := HM.out; have := HLV.out; omega); have d1n : (m < v.length) = True := eq_true (by have := HM.out; have := HLV.out; omega)
          have p0 : (0 ≤ (m : Int)) = True := eq_true (by omega)
          have hw1 : wrap64 ((m : Int) + 1) = (m : Int) + 1 := by have := HM.out; have := HML.out; unfold wrap64; omega
          obtain ⟨al, ea, -, hx1, -⟩ := at_T67 (Kd.C_below HC.out.1 HB.out) (m : Int) (by omega) (by have := HM.out; omega)
          subst ea
          obtain ⟨av, ev, hy0, hy1, -⟩ := at_TV (Kd.C_below HV.out.1 HB.out) (m : Int) (by omega) (by have := HM.out; have := HLV.out; omega)
          subst ev
          replace HO : Aside0 ((cok m (rd_T67 l (m : Int)) (rd_TV v (m : Int)) && okAll (m + 1) (l.drop (m + 1)) (v.drop (m + 1))) = b) := ⟨by have h := HO.out; rw [drop_T67 l m HM.out, drop_TV v m (by have := HM.out; have := HLV.out; omega)] at h; exact h⟩
          simp only [Int.toNat_natCast] at hx1 hy0 hy1
          generalize rd_T67 l (m : Int) = x at hx1 HO
          generalize rd_TV v (m : Int) = y at hy0 hy1 HO
          have bad : cok m x y = false → Aside0 (b = false) := fun h => ⟨by have h2 := HO.out; rw [h] at h2; exact h2.symm⟩
          by_cases hs : y.f0 = (m : Int) + 1
          · have s1 : (y.f0 != ((m : Int) + 1)) = false := by rw [hs]; exact bne_self_eq_false' ..
            have s2 : (y.f0 == ((m : Int) + 1)) = true := by rw [hs]; exact beq_self_eq_true ..
            by_cases hk : y.f1 < 1
            · have k1 : decide (y.f1 < 1) = true := decide_eq_true hk
              have HBAD := bad (by unfold cok okOne; rw [decide_eq_false (show ¬ (1 ≤ y.f1 ∧ y.f1 ≤ 4 ∧ 1 ≤ x.f1 ∧ x.f1 ≤ 14) by omega)]; rfl)
              clear bad HO
              go_wp2
              go_ret
              exact ⟨by rw [HBAD.out]; rfl, HB.out⟩
            have k1 : decide (y.f1 < 1) = false := decide_eq_false hk
            by_cases hk2 : 4 < y.f1
            · have k2 : decide (4 < y.f1) = true := decide_eq_true hk2
              have HBAD := bad (by unfold cok okOne; rw [decide_eq_false (show ¬ (1 ≤ y.f1 ∧ y.f1 ≤ 4 ∧ 1 ≤ x.f1 ∧ x.f1 ≤ 14) by omega)]; rfl)
              clear bad HO
              go_wp2
              go_ret
              exact ⟨by rw [HBAD.out]; rfl, HB.out⟩
            have k2 : decide (4 < y.f1) = false := decide_eq_false hk2
            by_cases ho : x.f1 < 1
            · have o1 : decide (x.f1 < 1) = true := decide_eq_true ho
              have HBAD := bad (by unfold cok okOne; rw [decide_eq_false (show ¬ (1 ≤ y.f1 ∧ y.f1 ≤ 4 ∧ 1 ≤ x.f1 ∧ x.f1 ≤ 14) by omega)]; rfl)
              clear bad HO
              go_wp2
              go_ret
              exact ⟨by rw [HBAD.out]; rfl, HB.out⟩
            have o1 : decide (x.f1 < 1) = false := decide_eq_false ho
            by_cases ho2 : 14 < x.f1
            · have o2 : decide (14 < x.f1) = true := decide_eq_true ho2
              have HBAD := bad (by unfold cok okOne; rw [decide_eq_false (show ¬ (1 ≤ y.f1 ∧ y.f1 ≤ 4 ∧ 1 ≤ x.f1 ∧ x.f1 ≤ 14) by omega)]; rfl)
              clear bad HO
              go_wp2
              go_ret
              exact ⟨by rw [HBAD.out]; rfl, HB.out⟩
            have o2 : decide (14 < x.f1) = false := decide_eq_false ho2
            have HO2 : Aside0 (okAll (m + 1) (l.drop (m + 1)) (v.drop (m + 1)) = b) := ⟨by
              have h2 := HO.out
              have hcok : cok m x y = true := by unfold cok okOne; rw [decide_eq_true (show 1 ≤ y.f1 ∧ y.f1 ≤ 4 ∧ 1 ≤ x.f1 ∧ x.f1 ≤ 14 by omega), decide_eq_true hs]; rfl
              rw [hcok] at h2; exact h2⟩
            clear bad HO hs hk hk2 ho ho2
            go_wp2
            go_roundg kq
            case measure => omega
            case rel => exact ⟨m + 1, by push_cast; first | rfl | rw [hw1], ⟨by have := HI.out; omega⟩, HO2, HB⟩
          · have s1 : (y.f0 != ((m : Int) + 1)) = true := bne_iff_ne.mpr hs
            have s2 : (y.f0 == ((m : Int) + 1)) = false := beq_eq_false_iff_ne.mpr hs
            have HBAD := bad (by unfold cok; rw [decide_eq_false hs, Bool.and_false])
            clear bad HO hs
            go_wp2
            go_ret
            exact ⟨by rw [HBAD.out]; rfl, HB.out⟩
    case rest =>
      clear HB HO
      obtain ⟨HT, HB⟩ := hcut
      go_wp2
      go_ret
      exact ⟨by rw [HT.out]; rfl, HB.out⟩
  · rw [if_neg hlv]
    have h1 : ((l.length : Int) != (v.length : Int)) = true := bne_iff_ne.mpr (by omega)
    have h2 : ((l.length : Int) == (v.length : Int)) = false := beq_eq_false_iff_ne.mpr (by omega)
    clear hlv
    go_enter Try.func11, Try.ntmps11
    go_wp2
    go_ret
    exact ⟨rfl, HB.out⟩
set_option maxHeartbeats 4000000 in
set_option maxRecDepth 100000 in
theorem refCount_calls (A0 : Option Addr) (c0 : Nat) (l : List S67) (A1 : Option Addr) (c1 : Nat) (v : List SV) (k : Nat) (r : List S74) (w : World) (hC : Kd.C k67 w A0 l.length l) (hc : l.length ≤ c0) (hV : Kd.C kV w A1 v.length v) (hc1 : v.length ≤ c1) (hlv : l.length = v.length) (hl : l.length ≤ 1000000)
    (hr : changelingref25_Rows.f k (l.map (·.f1)) (v.map (·.f1)) = some r) :
    Calls Try.prog 14 #[.slice A0 l.length c0, .slice A1 v.length c1] w fun e w' => ∃ v0_ : Value, e = .returned v0_ ∧ Kd.S k74 74 w' w.heap.size (fun _ => True) v0_ r ∧ Below w.heap.size w w' := by
  have HL := Aside0.mk hl
  have HLV := Aside0.mk hlv
  have HR := Aside0.mk hr
  have HC := Aside0.mk (And.intro hC hc)
  have HV := Aside0.mk (And.intro hV hc1)
  have HB := Aside0.mk (Below.refl w.heap.size w)
  clear hC hc hV hc1 hl hlv hr
  go_enter Try.func14, Try.ntmps14
  go_upto_block 0 with (fail)
  go_cut [5, 6] (fun v5 v6 wc => Aside0 (Kd.R (Kd.int .i64) 3 wc w.heap.size (fun _ => True) v5 (l.map (·.f1))) ∧ Aside0 (Kd.R (Kd.int .i64) 3 wc w.heap.size (fun _ => True) v6 (v.map (·.f1))) ∧ Aside0 (Below w.heap.size w wc))
  case first =>
    go_wp2
    go_loopg [5, 6, 7] l.length (fun kq v5 v6 v7 w' => ∃ m : Nat, v7 = .int .i64 (m : Int) ∧ Aside0 (m + kq = l.length) ∧ Aside0 (Kd.R (Kd.int .i64) 3 w' w.heap.size (fun _ => True) v5 ((l.take m).map (·.f1))) ∧ Aside0 (Kd.R (Kd.int .i64) 3 w' w.heap.size (fun _ => True) v6 ((v.take m).map (·.f1))) ∧ Aside0 (∀ q, v5.ownBlock = some q → some q ≠ v6.ownBlock) ∧ Aside0 (Below w.heap.size w w'))
    case atStart => exact ⟨0, rfl, ⟨by omega⟩, ⟨Kd.R_nil _ _ _ _ _⟩, ⟨Kd.R_nil _ _ _ _ _⟩, ⟨fun q hq => by cases hq⟩, HB⟩
    case round =>
      clear HB
      obtain ⟨m, rfl, HI, H5, H6, HN, HB⟩ := hrel
      cases gk with
      | zero =>
        obtain rfl : m = l.length := by have := HI.out; omega
        replace H5 : Aside0 (Kd.R (Kd.int .i64) 3 wr w.heap.size (fun _ => True) u5 (l.map (·.f1))) := ⟨by have h := H5.out; rwa [List.take_length] at h⟩
        replace H6 : Aside0 (Kd.R (Kd.int .i64) 3 wr w.heap.size (fun _ => True) u6 (v.map (·.f1))) := ⟨by have h := H6.out; rwa [HLV.out, List.take_length] at h⟩
        go_wp2
        go_meet
        case rel => exact ⟨H5, H6, HB⟩
      | succ kq =>
        have HM : Aside0 (m < l.length) := ⟨by have := HI.out; omega⟩
        have c1b : decide ((m : Int) < (l.length : Int)) = true := decide_eq_true (by have := HM.out; omega); have c1i : ((m : Int) < (l.length : Int)) = True := eq_true (by have := HM.out; omega); have c1n : (m < l.length) = True := eq_true HM.out
        have d1b : decide ((m : Int) < (v.length : Int)) = true := decide_eq_true (by have := HM.out; have := HLV.out; omega); have d1i : ((m : Int) < (v.length : Int)) = True := eq_true (by have := HM.out; have := HLV.out; omega); have d1n : (m < v.length) = True := eq_true (by have := HM.out; have := HLV.out; omega)
        have p0 : (0 ≤ (m : Int)) = True := eq_true (by omega)
        have hw1 : wrap64 ((m : Int) + 1) = (m : Int) + 1 := by have := HM.out; have := HL.out; unfold wrap64; omega
        obtain ⟨al, ea, -, hx1, -⟩ := at_T67 (Kd.C_below HC.out.1 HB.out) (m : Int) (by omega) (by have := HM.out; omega)
        subst ea
        simp only [Int.toNat_natCast] at hx1
        have HTX : Aside0 ((l.take (m + 1)).map (·.f1) = (l.take m).map (·.f1) ++ [(rd_T67 l (m : Int)).f1]) := ⟨by
          have e : rd_T67 l (m : Int) = l[m]'HM.out := by simp [rd_T67, HM.out]
          rw [e, ← List.take_append_getElem HM.out, List.map_append]; rfl⟩
        have HTY : Aside0 ((v.take (m + 1)).map (·.f1) = (v.take m).map (·.f1) ++ [(rd_TV v (m : Int)).f1]) := ⟨by
          have hmv : m < v.length := by have := HM.out; have := HLV.out; omega
          have e : rd_TV v (m : Int) = v[m] := by simp [rd_TV, hmv]
          rw [e, ← List.take_append_getElem hmv, List.map_append]; rfl⟩
        have HLX : Aside0 (((l.take m).map (·.f1)).length ≤ 1000000) := ⟨by rw [List.length_map, List.length_take]; have := HL.out; omega⟩
        have HLY : Aside0 (((v.take m).map (·.f1)).length ≤ 1000000) := ⟨by rw [List.length_map, List.length_take]; have := HL.out; have := HM.out; omega⟩
        generalize (rd_T67 l (m : Int)).f1 = x at hx1 HTX
        go_upto_region 6 with ((with_reducible refine gate_builtin (b := .append) (xs := #[.tmp 14, .tmp 20]) rfl ?_); at_builtin; refine Kd.R_append (Kd.int .i64) (w0 := w) w.heap.size rfl (.tmp 14) (.tmp 20) 44 3 (.int .i64 0) 8 rfl Try.underlying44 info3 rfl (by decide) (by omega) u5 ((l.take m).map (·.f1)) x [.int .i64 x] (fun _ => True) (fun _ => False) rfl rfl ?aP (fun _ hk => hk.elim) ?aF ?aO ?aB ?aS ?aL ?_; (case aP => exact rfl); (case aB => exact HB.out); (case aF => exact (fun _ _ => trivial)); (case aO => exact H5.out); (case aS => exact HB.out.size); (case aL => have := HLX.out; omega); intro v55 w1 ho hb hg hat; rw [← HTX.out] at ho; have H51 := Aside0.mk ho; have HB1 := Aside0.mk hb; have H61 := Aside0.mk (Kd.R_grown2 H6.out rfl hg HN.out); have HN1 : Aside0 (∀ q, v55.ownBlock = some q → some q ≠ u6.ownBlock) := ⟨fun q hq he => by rcases hat with e | ⟨b, e, hbb⟩; (· exact HN.out q (by rw [← e]; exact hq) he); (· have h1 := Kd.R_lt H6.out q he.symm; rw [hq] at e; injection e with e; omega)⟩; clear ho hb hg hat H5 H6 HB HN)
        clear hx1
        obtain ⟨av, ev, -, hy1, -⟩ := at_TV (Kd.C_below HV.out.1 HB1.out) (m : Int) (by omega) (by have := HM.out; have := HLV.out; omega)
        subst ev
        simp only [Int.toNat_natCast] at hy1
        generalize (rd_TV v (m : Int)).f1 = y at hy1 HTY
        go_wp2_with ((with_reducible refine gate_builtin (b := .append) (xs := #[.tmp 22, .tmp 28]) rfl ?_); at_builtin; refine Kd.R_append (Kd.int .i64) (w0 := w) w.heap.size rfl (.tmp 22) (.tmp 28) 44 3 (.int .i64 0) 8 rfl Try.underlying44 info3 rfl (by decide) (by omega) u6 ((v.take m).map (·.f1)) y [.int .i64 y] (fun _ => True) (fun _ => False) rfl rfl ?aP (fun _ hk => hk.elim) ?aF ?aO ?aB ?aS ?aL ?_; (case aP => exact rfl); (case aB => exact HB1.out); (case aF => exact (fun _ _ => trivial)); (case aO => exact H61.out); (case aS => exact HB1.out.size); (case aL => have := HLY.out; omega); intro v66 w2 ho hb hg hat; rw [← HTY.out] at ho; have H62 := Aside0.mk ho; have HB2 := Aside0.mk hb; have H52 := Aside0.mk (Kd.R_grown2 H51.out rfl hg (fun q hq he => HN1.out q he.symm hq.symm)); have HN2 : Aside0 (∀ q, v55.ownBlock = some q → some q ≠ v66.ownBlock) := ⟨fun q hq he => by rcases hat with e | ⟨b, e, hbb⟩; (· exact HN1.out q hq (by rw [← e]; exact he)); (· have h1 := Kd.R_lt H51.out q hq; rw [← he] at e; injection e with e; omega)⟩; clear ho hb hg hat H51 H61 HB1 HN1)
        go_roundg kq
        case measure => omega
        case rel => exact ⟨m + 1, by push_cast; first | rfl | rw [hw1], ⟨by have := HI.out; omega⟩, H52, H62, HN2, HB2⟩
  case rest =>
    clear HB
    obtain ⟨H5, H6, HB⟩ := hcut
    generalize l.map (·.f1) = xs at H5 HR
    generalize v.map (·.f1) = ys at H6 HR
    obtain ⟨A5, c5, e5, h5⟩ := Kd.R_reads H5.out
    obtain ⟨A6, c6, e6, h6⟩ := Kd.R_reads H6.out
    subst e5
    subst e6
    have HA5 := Aside0.mk h5
    have HA6 := Aside0.mk h6
    clear h5 h6 H5 H6
    go_wp2_with (go_at_call 30; go_must (refine (changelingref25_Rows.calls k A5 c5 _ A6 c6 _ r wc HA5.out.2 HA5.out.1 HA6.out.2 HA6.out.1 HR.out).mono ?_; rintro e w3 ⟨v3, rfl, ho, hb⟩; have HO := Aside0.mk (Kd.S_lower ho HB.out.size); have HB3 := Aside0.mk (below_then HB.out HB.out.size hb); clear hb ho HB))
    go_ret
    exact ⟨_, rfl, HO.out, HB3.out⟩
end Go.Proofs.Ytcmknnhhbcgoiaa.QN
