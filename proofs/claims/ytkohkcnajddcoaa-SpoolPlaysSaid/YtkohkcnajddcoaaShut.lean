/- The law SpoolShut: the walk, with what is known at each place; it returns true for every input. -/
import Derived.Test.YtkohkcnajddcoaaKno
namespace Go.Proofs.Ytkohkcnajddcoaa.QN
open Go.RowKit Go.Conc Go.Proofs.YtkohkcnajddcoaaW.PrintWords Go.Proofs.YtkohkcnajddcoaaW.PrintLast Go.Proofs.YtkohkcnajddcoaaW.PrintMore
set_option linter.unusedVariables false
set_option linter.unusedSimpArgs false

/-- What numbers are in memory. -/
def V (l : List Int) : List Value := l.map (fun x => Value.int .i64 x)
theorem V_len (l : List Int) : (V l).length = l.length := by simp [V]
theorem rd_get (l : List Int) (m : Nat) (h : m < l.length) : rd l (m : Int) = l[m] := by simp [rd, h]
theorem V_take (l : List Int) (m : Nat) (h : m < l.length) : V (l.take m) ++ [.int .i64 (rd l (m : Int))] = V (l.take (m + 1)) := by
  rw [rd_get l m h, ← List.take_append_getElem h]
  simp only [V, List.map_append, List.map_cons, List.map_nil]
theorem V_drop (l : List Int) (m : Nat) (h : m < l.length) : V (l.drop m) = .int .i64 (rd l (m : Int)) :: V (l.drop (m + 1)) := by
  rw [rd_get l m h, List.drop_eq_getElem_cons h]
  rfl
set_option maxHeartbeats 4000000 in
set_option maxRecDepth 100000 in
theorem SpoolShut_calls (A0 : Option Addr) (c0 : Nat) (l0 : List Int) (x : Int) (w : World) (hC : Kd.C (Kd.int .i64) w A0 l0.length l0) (hm : l0.length ≤ maxLen) :
    Calls Try.prog 3 #[.slice A0 l0.length c0, .int .i64 x] w fun e w' => e = .returned (.bool true) ∧ Below w.heap.size w w' := by
  have HC := Aside0.mk hC
  have HM := Aside0.mk hm
  clear hC hm
  go_enter Try.func3, Try.ntmps3
  go_upto_region 4 with (go_at_call 8; go_must (refine (swI_new (w0 := w) 1024 (by decide) (Below.refl _ _)).mono ?_; rintro e w1 ⟨p, c, rfl, h1, -, -, -⟩; have HS := Aside0.mk h1; clear h1))
  go_upto_block 0 with (fail)
  go_cut [7, 8] (fun v7 v8 wc => ∃ m : Nat, v7 = .int .i64 (m : Int) ∧ v8 = .int .i64 (m : Int) ∧ Aside0 (m ≤ l0.length) ∧ Aside0 (Sw 62 w wc p c 1024 (V (l0.take m)) false))
  case first =>
    go_wp2
    go_loopg [7, 8] l0.length (fun kq v7 v8 w' => ∃ m : Nat, v7 = .int .i64 (m : Int) ∧ v8 = .int .i64 (m : Int) ∧ Aside0 (m + kq = l0.length) ∧ Aside0 (m ≤ 1024) ∧ Aside0 (Sw 62 w w' p c 1024 (V (l0.take m)) false))
    case atStart => exact ⟨0, rfl, rfl, ⟨by omega⟩, ⟨by omega⟩, HS⟩
    case round =>
      clear HS
      obtain ⟨m, rfl, rfl, HI, HL, HS⟩ := hrel
      by_cases c1 : m < l0.length
      · have c1b : decide ((m : Int) < (l0.length : Int)) = true := decide_eq_true (by omega); have c1i : ((m : Int) < (l0.length : Int)) = True := eq_true (by omega); have c1n : (m < l0.length) = True := eq_true (by omega)
        by_cases c2 : m < 1024
        · have c2b : decide ((m : Int) < 1024) = true := decide_eq_true (by omega); have c2i : ((m : Int) < 1024) = True := eq_true (by omega); have c2n : (m < 1024) = True := eq_true (by omega)
          have HC1 := Aside0.mk c1
          have HC2 := Aside0.mk c2
          have p0 : (0 ≤ (m : Int)) = True := eq_true (by omega)
          have q0 : ((m : Int) < (l0.length : Int)) = True := eq_true (by omega)
          obtain ⟨ad, ea, hx⟩ := Kd.at_int (Kd.C_below HC.out HS.out.bl) (m : Int) (by omega) (by omega)
          subst ea
          simp only [Int.toNat_natCast] at hx
          have hw1 : wrap64 ((m : Int) + 1) = (m : Int) + 1 := by have := HM.out; unfold maxLen at this; unfold wrap64; omega
          clear c1 c2
          go_wp2_with (go_at_call 9; go_must (refine (swI_put (.int .i64 (rd l0 (m : Int))) HS.out (by rw [V_len, List.length_take]; have := HC2.out; omega)).mono ?_; rintro e w2 ⟨rfl, h2, -⟩; have HS2 := Aside0.mk h2; clear h2 HS hx))
          cases gk with
          | zero => have := HI.out; have := HC1.out; omega
          | succ kq =>
            go_roundg kq
            case measure => omega
            case rel => exact ⟨m + 1, by push_cast; rw [hw1], by push_cast; rw [hw1], ⟨by have := HI.out; omega⟩, ⟨by have := HC2.out; omega⟩, ⟨by rw [← V_take l0 m HC1.out]; exact HS2.out⟩⟩
        · have c2b : decide ((m : Int) < 1024) = false := decide_eq_false (by omega); have c2i : ((m : Int) < 1024) = False := eq_false (by omega); have c2n : (m < 1024) = False := eq_false (by omega)
          clear c1 c2
          go_wp2
          go_meet
          case rel => exact ⟨m, rfl, rfl, ⟨by have := HI.out; omega⟩, HS⟩
      · have c1b : decide ((m : Int) < (l0.length : Int)) = false := decide_eq_false (by omega); have c1i : ((m : Int) < (l0.length : Int)) = False := eq_false (by omega); have c1n : (m < l0.length) = False := eq_false (by omega)
        clear c1
        go_wp2
        go_meet
        case rel => exact ⟨m, rfl, rfl, ⟨by have := HI.out; omega⟩, HS⟩
  case rest =>
    clear HS
    obtain ⟨n, rfl, rfl, HN, HS⟩ := hcut
    have hvl : (V (l0.take n)).length = n := by rw [V_len, List.length_take]; have := HN.out; omega
    go_upto_block 2 with (first | (go_at_call 10; refine (swI_close HS.out).mono ?_; rintro e w3 ⟨rfl, h2, -⟩; have HS3 := Aside0.mk h2; clear h2 HS) | (go_at_call 10; refine (closeI_no HS3.out.sp).mono ?_; rintro e w4 ⟨rfl, rfl⟩) | (go_at_call 9; refine (putI_shut _ HS3.out.sp).mono ?_; rintro e w4 ⟨rfl, rfl⟩) | (go_at_call 11; refine (openI_calls HS3.out.sp).mono ?_; rintro e w4 ⟨rfl, rfl⟩) | (go_at_call 12; refine (lenI_calls HS3.out.sp).mono ?_; rintro e w4 ⟨rfl, rfl⟩))
    clear hvl
    go_cut [9] (fun v9 wc => Aside0 (Sw 62 w wc p c 1024 [] true))
    case first =>
      go_wp2
      go_loopg [9] n (fun kq v9 w' => ∃ m : Nat, v9 = .int .i64 (m : Int) ∧ Aside0 (m + kq = n) ∧ Aside0 (Sw 62 w w' p c 1024 (V ((l0.take n).drop m)) true))
      case atStart => exact ⟨0, rfl, ⟨by omega⟩, HS3⟩
      case round =>
        clear HS3
        obtain ⟨m, rfl, HI, HS⟩ := hrel
        by_cases c1 : m < n
        · have c1b : decide ((m : Int) < (n : Int)) = true := decide_eq_true (by omega); have c1i : ((m : Int) < (n : Int)) = True := eq_true (by omega); have c1n : (m < n) = True := eq_true (by omega)
          have HC1 := Aside0.mk c1
          have p0 : (0 ≤ (m : Int)) = True := eq_true (by omega)
          have q0 : ((m : Int) < (l0.length : Int)) = True := eq_true (by have := HN.out; omega)
          have q1 : (m < l0.length) = True := eq_true (by have := HN.out; omega)
          obtain ⟨ad, ea, hx⟩ := Kd.at_int (Kd.C_below HC.out HS.out.bl) (m : Int) (by omega) (by have := HN.out; omega)
          subst ea
          simp only [Int.toNat_natCast] at hx
          clear hx
          have hw1 : wrap64 ((m : Int) + 1) = (m : Int) + 1 := by have := HM.out; have := HN.out; unfold maxLen at *; unfold wrap64; omega
          clear c1
          have HS1 : Aside0 (Sw 62 w wr p c 1024 (.int .i64 (rd l0 (m : Int)) :: V ((l0.take n).drop (m + 1))) true) := by
            refine ⟨?_⟩
            have h := HS.out
            rw [V_drop _ m (by rw [List.length_take]; have := HC1.out; have := HN.out; omega)] at h
            have e : rd (l0.take n) (m : Int) = rd l0 (m : Int) := by
              rw [rd_get _ m (by rw [List.length_take]; have := HC1.out; have := HN.out; omega), rd_get l0 m (by have := HC1.out; have := HN.out; omega)]
              simp
            rw [e] at h
            exact h
          go_upto_region 17 with (go_at_call 13; go_must (refine (swI_take (.int .i64 (rd l0 (m : Int))) HS1.out).mono ?_; rintro e w2 ⟨rfl, h2, -⟩; have HS2 := Aside0.mk h2; clear h2 HS HS1))
          obtain ⟨ad2, ea2, hx⟩ := Kd.at_int (Kd.C_below HC.out HS2.out.bl) (m : Int) (by omega) (by have := HN.out; have := HC1.out; omega)
          obtain rfl : ad = ad2 := Option.some.inj ea2
          simp only [Int.toNat_natCast] at hx
          clear ea2
          go_wp2
          cases gk with
          | zero => have := HI.out; have := HC1.out; omega
          | succ kq =>
            go_roundg kq
            case measure => omega
            case rel => exact ⟨m + 1, by push_cast; rw [hw1], ⟨by have := HI.out; omega⟩, HS2⟩
        · have c1b : decide ((m : Int) < (n : Int)) = false := decide_eq_false (by omega); have c1i : ((m : Int) < (n : Int)) = False := eq_false (by omega); have c1n : (m < n) = False := eq_false (by omega)
          have HS1 : Aside0 (Sw 62 w wr p c 1024 [] true) := by
            refine ⟨?_⟩
            have h := HS.out
            rw [List.drop_eq_nil_of_le (by rw [List.length_take]; omega)] at h
            exact h
          clear c1
          go_wp2
          go_meet
          case rel => exact HS1
    case rest =>
      clear HS3
      have HS := Aside0.mk hcut.out
      clear hcut
      go_wp2_with (first | (go_at_call 13; refine (takeI_none HS.out.sp).mono ?_; rintro e w4 ⟨rfl, rfl⟩) | (go_at_call 14; refine (known_calls _).mono ?_; rintro e w5 ⟨rfl, h5⟩; have HB := Aside0.mk (below_then HS.out.bl HS.out.bl.size h5); clear h5))
      go_ret
      exact ⟨rfl, HB.out⟩
end Go.Proofs.Ytkohkcnajddcoaa.QN
