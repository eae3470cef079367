/- The law SpoolKeeps: the walk, with what is known at each place; it returns true for every input. -/
import Derived.Test.YtkohkcnajddcoaaMove
import Derived.Test.YtkohkcnajddcoaaOrder
import Derived.Test.YtkohkcnajddcoaaShut
namespace Go.Proofs.Ytkohkcnajddcoaa.QN
open Go.RowKit Go.Conc Go.Proofs.YtkohkcnajddcoaaW.PrintWords Go.Proofs.YtkohkcnajddcoaaW.PrintLast Go.Proofs.YtkohkcnajddcoaaW.PrintMore
set_option linter.unusedVariables false
set_option linter.unusedSimpArgs false

theorem sameInts_l0 (l : List Int) (hm : l.length ≤ maxLen) : ∀ (n m k : Nat), m + n = l.length → n < k → changelingref01_SameInts.l0 k l l (m : Int) = some true := by
  intro n
  induction n with
  | zero =>
    intro m k h1 h2
    obtain ⟨k, rfl⟩ : ∃ k', k = k' + 1 := ⟨k - 1, by omega⟩
    simp only [changelingref01_SameInts.l0]
    rw [if_neg (by omega)]
  | succ n ih =>
    intro m k h1 h2
    obtain ⟨k, rfl⟩ : ∃ k', k = k' + 1 := ⟨k - 1, by omega⟩
    simp only [changelingref01_SameInts.l0]
    unfold maxLen at hm
    rw [if_pos (by omega), if_pos (by omega), if_pos (by omega), if_pos trivial, w64 (by omega) (by omega)]
    have := ih (m + 1) k (by omega) (by omega)
    push_cast at this
    exact this
theorem sameInts_self (l : List Int) (hm : l.length ≤ maxLen) : changelingref01_SameInts.f (l.length + 1) l l = some true := by
  unfold changelingref01_SameInts.f
  rw [if_pos rfl]
  exact sameInts_l0 l hm l.length 0 _ (by omega) (by omega)
theorem sameInts_calls {W : World} {A B : Option Addr} {ca cb n : Nat} (Y : List Int) (hn : Y.length = n) (hm : n ≤ maxLen) (h1 : (Kd.int .i64).C W A n Y) (hc1 : n ≤ ca) (h2 : (Kd.int .i64).C W B n Y) (hc2 : n ≤ cb) :
    Calls Try.prog 24 #[.slice A n ca, .slice B n cb] W fun e w' => e = .returned (.bool true) ∧ Drawn0 W w' := by
  subst hn
  exact changelingref01_SameInts.calls (Y.length + 1) A ca Y B cb Y true W h1 hc1 h2 hc2 (sameInts_self _ hm)
theorem right_true (n : Nat) (h : n ≤ 1024) : changelingref03_Right.f (n : Int) = some true := by
  unfold changelingref03_Right.f
  rw [if_pos (by omega), decide_eq_true (by omega)]
theorem right_false (n : Int) (h : n < 0 ∨ 1024 < n) : changelingref03_Right.f n = some false := by
  unfold changelingref03_Right.f
  by_cases h0 : n ≥ 0
  · rw [if_pos h0, decide_eq_false (by omega)]
  · rw [if_neg h0]
theorem newI_any {W : World} (n : Int) : Calls Try.prog 8 #[.int .i64 n] W fun e w' => ∃ v k, e = .returned (.tuple #[v, .int .i64 k]) ∧ Below W.heap.size W w' := by
  by_cases h : n < 0 ∨ 1024 < n
  · exact (newI_no n h).mono (fun e w' ⟨h1, h2⟩ => ⟨_, _, h1, h2 ▸ Below.refl _ _⟩)
  · obtain ⟨m, rfl⟩ : ∃ m : Nat, n = (m : Int) := ⟨n.toNat, by omega⟩
    exact (newI_ok m (by omega)).mono (fun e w' ⟨p, c, h1, _, _, _, h5⟩ => ⟨_, _, h1, h5⟩)
theorem V_map_take (l : List Int) (n : Nat) : (V l).take n = V (l.take n) := by simp [V]
theorem V_map_drop (l : List Int) (n : Nat) : (V l).drop n = V (l.drop n) := by simp [V]
set_option maxHeartbeats 8000000 in
set_option maxRecDepth 100000 in
theorem SpoolKeeps_no1 (a0 a1 : Int) (v2 : Value) (most : Int) (w : World) (h0 : a0 < 0 ∨ 1024 < a0) :
    Calls Try.prog 6 #[.int .i64 a0, .int .i64 a1, v2, .int .i64 most] w fun e w' => e = .returned (.bool true) ∧ Below w.heap.size w w' := by
  have HR := Aside0.mk (right_false a0 h0)
  have H0 := Aside0.mk h0
  clear h0
  go_enter Try.func6, Try.ntmps6
  go_upto_region 2 with (go_at_call 8; go_must (refine (newI_no a0 H0.out).mono ?_; rintro e w1 ⟨rfl, rfl⟩))
  go_upto_region 3 with (go_at_call 8; go_must (refine (newI_any a1).mono ?_; rintro e w1 ⟨v, k, rfl, h1⟩; have HB := Aside0.mk h1; clear h1))
  go_wp2_with (first | (go_at_call 16; refine (changelingref03_Right.calls a0 false _ HR.out).mono ?_; rintro e w2 ⟨rfl, hd⟩; have HD := Aside0.mk (below_then HB.out HB.out.size hd.below); clear hd) | (go_at_call 14; refine (known_calls _).mono ?_; rintro e w5 ⟨rfl, h5⟩; have HE := Aside0.mk (below_then HD.out HD.out.size h5); clear h5))
  go_ret
  exact ⟨rfl, HE.out⟩
set_option maxHeartbeats 8000000 in
set_option maxRecDepth 100000 in
theorem SpoolKeeps_no2 (R : Nat) (hR : R ≤ 1024) (a1 : Int) (v2 : Value) (most : Int) (w : World) (h0 : a1 < 0 ∨ 1024 < a1) :
    Calls Try.prog 6 #[.int .i64 (R : Int), .int .i64 a1, v2, .int .i64 most] w fun e w' => e = .returned (.bool true) ∧ Below w.heap.size w w' := by
  have HR := Aside0.mk (right_false a1 h0)
  have HR1 := Aside0.mk (right_true R hR)
  have H0 := Aside0.mk h0
  have HRM := Aside0.mk hR
  clear h0 hR
  go_enter Try.func6, Try.ntmps6
  go_upto_region 2 with (go_at_call 8; go_must (refine (newI_ok R HRM.out).mono ?_; rintro e w1 ⟨p, c, rfl, -, -, -, h1⟩; have HB := Aside0.mk h1; clear h1))
  go_upto_region 3 with (go_at_call 8; go_must (refine (newI_no a1 H0.out).mono ?_; rintro e w1 ⟨rfl, rfl⟩))
  go_wp2_with (first | (go_at_call 16; (with_reducible refine Calls.mono (changelingref03_Right.calls (R : Int) true _ HR1.out) ?_); rintro e w2 ⟨rfl, hd⟩; have HD1 := Aside0.mk (below_then HB.out HB.out.size hd.below); clear hd) | (go_at_call 16; (with_reducible refine Calls.mono (changelingref03_Right.calls a1 false _ HR.out) ?_); rintro e w2 ⟨rfl, hd⟩; have HD := Aside0.mk (below_then HD1.out HD1.out.size hd.below); clear hd) | (go_at_call 14; refine (known_calls _).mono ?_; rintro e w5 ⟨rfl, h5⟩; have HE := Aside0.mk (below_then HD.out HD.out.size h5); clear h5))
  go_ret
  exact ⟨rfl, HE.out⟩
set_option maxHeartbeats 8000000 in
set_option maxRecDepth 100000 in
theorem SpoolKeeps_yes (R O : Nat) (hR : R ≤ 1024) (hO : O ≤ 1024) (A0 : Option Addr) (c0 : Nat) (l0 : List Int) (most : Int) (w : World) (hC : Kd.C (Kd.int .i64) w A0 l0.length l0) (hm : l0.length ≤ maxLen) :
    Calls Try.prog 6 #[.int .i64 (R : Int), .int .i64 (O : Int), .slice A0 l0.length c0, .int .i64 most] w fun e w' => e = .returned (.bool true) ∧ Below w.heap.size w w' := by
  have HC := Aside0.mk hC
  have HM := Aside0.mk hm
  have HRM := Aside0.mk hR
  have HOM := Aside0.mk hO
  clear hC hm hR hO
  go_enter Try.func6, Try.ntmps6
  go_upto_region 2 with (go_at_call 8; go_must (refine (swI_new (w0 := w) R HRM.out (Below.refl _ _)).mono ?_; rintro e w1 ⟨p, c, rfl, h1, -, -, -⟩; have HS0 := Aside0.mk h1; clear h1))
  go_upto_region 3 with (go_at_call 8; go_must (refine (swI_new (w0 := w) O HOM.out HS0.out.bl).mono ?_; rintro e w2 ⟨q, d, rfl, h2, hq, hd, hb2⟩; have HT := Aside0.mk h2; have HPQ : Aside0 (p ≠ q ∧ c ≠ d ∧ p ≠ d ∧ c ≠ q) := ⟨by have := HS0.out.sp.plt; have := HS0.out.sp.clt; omega⟩; have HS := Aside0.mk (HS0.out.below hb2); have HR0 : Aside0 ((Kd.int .i64).R 3 w2 w.heap.size (fun k => k ≠ p ∧ k ≠ c ∧ k ≠ q ∧ k ≠ d) (.slice none 0 0) (l0.take 0)) := ⟨Kd.R_nil _ _ _ _ _⟩; clear h2 hq hd hb2 HS0))
  go_upto_block 0 with (fail)
  go_cut [13, 14] (fun va vi wc => ∃ (n : Nat) (A : Option Addr) (cc : Nat), va = .slice A n cc ∧ Aside0 (n ≤ l0.length ∧ n ≤ R) ∧ Aside0 ((Kd.int .i64).R 3 wc w.heap.size (fun k => k ≠ p ∧ k ≠ c ∧ k ≠ q ∧ k ≠ d) (.slice A n cc) (l0.take n)) ∧ Aside0 (Sw 62 w wc p c R (V (l0.take n)) false) ∧ Aside0 (Sw 62 w wc q d O [] false))
  case first =>
    go_wp2
    go_loopg [13, 14] l0.length (fun kq va vi w' => ∃ (m n : Nat) (A : Option Addr) (cc : Nat), va = .slice A n cc ∧ vi = .int .i64 (m : Int) ∧ Aside0 (m + kq = l0.length) ∧ Aside0 (n = min m R) ∧ Aside0 ((Kd.int .i64).R 3 w' w.heap.size (fun k => k ≠ p ∧ k ≠ c ∧ k ≠ q ∧ k ≠ d) (.slice A n cc) (l0.take n)) ∧ Aside0 (Sw 62 w w' p c R (V (l0.take n)) false) ∧ Aside0 (Sw 62 w w' q d O [] false))
    case atStart => exact ⟨0, 0, none, 0, rfl, rfl, ⟨by omega⟩, ⟨by omega⟩, HR0, HS, HT⟩
    case round =>
      clear HS HT HR0
      obtain ⟨m, n, A, cc, rfl, rfl, HI, HQ, HR, HS, HT⟩ := hrel
      cases gk with
      | zero =>
        have c0 := HI.out
        have c1b : decide ((m : Int) < (l0.length : Int)) = false := decide_eq_false (by omega); have c1i : ((m : Int) < (l0.length : Int)) = False := eq_false (by omega); have c1n : (m < l0.length) = False := eq_false (by omega)
        have HQ2 : Aside0 (n ≤ l0.length ∧ n ≤ R) := ⟨by have := HQ.out; omega⟩
        clear c0
        go_wp2
        go_meet
        case rel => exact ⟨n, A, cc, rfl, HQ2, HR, HS, HT⟩
      | succ kq =>
        have HC1 : Aside0 (m < l0.length) := ⟨by have := HI.out; omega⟩
        have c0 := HC1.out
        have c1b : decide ((m : Int) < (l0.length : Int)) = true := decide_eq_true (by omega); have c1i : ((m : Int) < (l0.length : Int)) = True := eq_true (by omega); have c1n : (m < l0.length) = True := eq_true (by omega)
        have p0 : (0 ≤ (m : Int)) = True := eq_true (by omega)
        have hw1 : wrap64 ((m : Int) + 1) = (m : Int) + 1 := w64 (by omega) (by have := HM.out; unfold maxLen at *; omega)
        obtain ⟨ad, ea, hx⟩ := Kd.at_int (Kd.C_below HC.out HS.out.bl) (m : Int) (by omega) (by omega)
        subst ea
        simp only [Int.toNat_natCast] at hx
        clear c0
        by_cases c2 : m < R
        · obtain rfl : n = m := by have := HQ.out; omega
          have HC2 := Aside0.mk c2
          have HX := Aside0.mk (V_take l0 n HC1.out)
          have HT1 : Aside0 (l0.take n ++ [rd l0 (n : Int)] = l0.take (n + 1)) := ⟨by rw [rd_get l0 n HC1.out]; exact take_one l0 n HC1.out⟩
          have HP : Aside0 (p < wr.heap.size ∧ c < wr.heap.size ∧ q < wr.heap.size ∧ d < wr.heap.size) := ⟨HS.out.sp.plt, HS.out.sp.clt, HT.out.sp.plt, HT.out.sp.clt⟩
          clear c2
          go_upto_region 12 with (go_at_call 9; go_must (refine (swI_put (.int .i64 (rd l0 (n : Int))) HS.out (by rw [V_len, List.length_take]; have := HC2.out; omega)).mono ?_; rintro e w2 ⟨rfl, h2, k2⟩; rw [HX.out] at h2; have HS2 := Aside0.mk h2; have HT2 : Aside0 (Sw 62 w w2 q d O [] false) := ⟨HT.out.kept k2 (fun e => HPQ.out.2.2.2 e.symm) (fun e => HPQ.out.2.1 e.symm) HS2.out.bl⟩; have HR2 := Aside0.mk (Kd.R_kept HR.out k2 (fun k hk e => hk.2.1 e)); have HZ2 := Aside0.mk k2.1; clear h2 k2 HS HR HT hx))
          obtain ⟨ad2, ea2, hx⟩ := Kd.at_int (Kd.C_below HC.out HS2.out.bl) (n : Int) (by omega) (by have := HC1.out; omega)
          obtain rfl : ad = ad2 := Option.some.inj ea2
          simp only [Int.toNat_natCast] at hx
          clear ea2
          go_wp2_with (((with_reducible refine gate_builtin (b := .append) (xs := #[.tmp 66, .tmp 71]) rfl ?_); at_builtin; go_must (refine Kd.R_append (Kd.int .i64) (w0 := w) (W := w2) w.heap.size rfl (.tmp 66) (.tmp 71) 22 3 (.int .i64 0) 8 rfl Try.underlying22 info3 rfl (by decide) (by omega) (.slice A n cc) (l0.take n) (rd l0 (n : Int)) [.int .i64 (rd l0 (n : Int))] (fun k => k ≠ p ∧ k ≠ c ∧ k ≠ q ∧ k ≠ d) (fun _ => False) rfl rfl rfl (fun _ hk => hk.elim) (fun k hk => by have := HP.out; have := HZ2.out; omega) HR2.out HS2.out.bl HS2.out.bl.size (by rw [List.length_take]; have := HC2.out; have := HRM.out; omega) ?_; intro v7 w7 hr7 hb7 hg7 hat7; rw [HT1.out] at hr7; have HR7 := Aside0.mk hr7; have hrow : ∀ k, (Value.slice A n cc).ownBlock = some k → k ≠ p ∧ k ≠ c ∧ k ≠ q ∧ k ≠ d := fun k hk => HR2.out.1 k hk; have HS7 : Aside0 (Sw 62 w w7 p c R (V (l0.take (n + 1))) false) := ⟨HS2.out.kept (kept_grown hg7) (fun e => (hrow p e.symm).1 rfl) (fun e => (hrow c e.symm).2.1 rfl) hb7⟩; have HT7 : Aside0 (Sw 62 w w7 q d O [] false) := ⟨HT2.out.kept (kept_grown hg7) (fun e => (hrow q e.symm).2.2.1 rfl) (fun e => (hrow d e.symm).2.2.2 rfl) hb7⟩; clear hr7 hb7 hg7 hat7 hrow HS2 HR2 HT2 hx)))
          obtain ⟨A7, cc7, rfl⟩ := Kd.R_slice HR7.out
          have hl7 : (l0.take (n + 1)).length = n + 1 := by rw [List.length_take]; have := HC1.out; omega
          rw [hl7] at HR7 ⊢
          clear hl7
          go_roundg kq
          case measure => omega
          case rel => exact ⟨n + 1, n + 1, A7, cc7, rfl, by push_cast; rw [hw1], ⟨by have := HI.out; omega⟩, ⟨by have := HC2.out; omega⟩, HR7, HS7, HT7⟩
        · obtain rfl : n = R := by have := HQ.out; omega
          have HC2 : Aside0 (n ≤ m) := ⟨by omega⟩
          have hvl : (V (l0.take n)).length = n := by rw [V_len, List.length_take]; have := HC1.out; omega
          clear c2
          go_wp2_with (go_at_call 9; go_must (refine (putI_full _ HS.out.sp (by rw [hvl])).mono ?_; rintro e w4 ⟨rfl, rfl⟩))
          go_roundg kq
          case measure => omega
          case rel => exact ⟨m + 1, n, A, cc, rfl, by push_cast; rw [hw1], ⟨by have := HI.out; omega⟩, ⟨by have := HC2.out; omega⟩, HR, HS, HT⟩
  case rest =>
    clear HS HR0 HT
    obtain ⟨n, A, cc, rfl, HQ, HR, HS, HT⟩ := hcut
    obtain ⟨Y, hY⟩ : ∃ Y, l0.take n = Y := ⟨_, rfl⟩
    have HYL : Aside0 (Y.length = n) := ⟨by rw [← hY, List.length_take]; have := HQ.out; omega⟩
    rw [hY] at HR HS
    clear hY
    have HQL : Aside0 (n ≤ 1024) := ⟨by have := HQ.out; have := HRM.out; omega⟩
    obtain ⟨N, hN⟩ : ∃ N, movN (V Y).length (O - ([] : List Value).length) false most = N := ⟨_, rfl⟩
    have HN : Aside0 (N ≤ n ∧ (0 < N → (N : Int) ≤ most)) := ⟨by rw [V_len, HYL.out] at hN; unfold movN at hN; simp at hN; omega⟩
    have HNE := Aside0.mk hN
    clear hN
    obtain ⟨D, hD⟩ : ∃ D, N + D = n := ⟨n - N, by have := HN.out; omega⟩
    have HD := Aside0.mk hD
    have hA1 : (V (Y.take N)).length = N := by rw [V_len, List.length_take, HYL.out]; omega
    have hA2 : (V (Y.drop N)).length = D := by rw [V_len, List.length_drop, HYL.out]; omega
    have hA3 : wrap64 ((N : Int) + (D : Int)) = (n : Int) := by rw [w64 (by omega) (by have := HQL.out; omega)]; omega
    have hA4 : decide (most < (N : Int)) = false ∨ N = 0 := by
      rcases Nat.eq_zero_or_pos N with h | h
      · exact Or.inr h
      · exact Or.inl (decide_eq_false (by have := HN.out.2 h; omega))
    clear hD
    go_upto_region 14 with (go_at_call 27; go_must (refine (moveI_calls (V Y) [] false false most HS.out HT.out HPQ.out.1 HPQ.out.2.1).mono ?_; rintro e w4 ⟨rfl, h4, h5, k4⟩; rw [HNE.out] at h4 h5 ⊢; rw [V_map_drop] at h4; rw [V_map_take, List.nil_append] at h5; have HS4 := Aside0.mk h4; have HT4 := Aside0.mk h5; have HR4 := Aside0.mk (Kd.R_kept HR.out k4 (fun k hk e => by omega)); clear h4 h5 k4 HS HT HR))
    go_cut [98] (fun v98 wc => v98 = .bool false ∧ w4 = wc)
    case first =>
      rcases hA4 with hA5 | hA5
      · go_wp2_with (first | (go_at_call 12; (with_reducible refine Calls.mono (lenI_calls HT4.out.sp) ?_); rintro e w5 ⟨rfl, rfl⟩) | (go_at_call 12; (with_reducible refine Calls.mono (lenI_calls HS4.out.sp) ?_); rintro e w5 ⟨rfl, rfl⟩))
        all_goals go_meet
        all_goals (case rel => exact ⟨rfl, rfl⟩)
      · have hA6 : decide (0 < (N : Int)) = false := decide_eq_false (by omega); have hA7 : (0 < (N : Int)) = False := eq_false (by omega); have hA8 : (0 < N) = False := eq_false (by omega)
        clear hA5
        go_wp2_with (first | (go_at_call 12; (with_reducible refine Calls.mono (lenI_calls HT4.out.sp) ?_); rintro e w5 ⟨rfl, rfl⟩) | (go_at_call 12; (with_reducible refine Calls.mono (lenI_calls HS4.out.sp) ?_); rintro e w5 ⟨rfl, rfl⟩))
        all_goals go_meet
        all_goals (case rel => exact ⟨rfl, rfl⟩)
    case rest =>
    obtain ⟨rfl, rfl⟩ := hcut
    clear hA1 hA2 hA3 hA4
    have HLA : Aside0 ((Y.take N).length = N) := ⟨by rw [List.length_take, HYL.out]; have := HN.out; omega⟩
    have HLB : Aside0 ((Y.drop N).length = D) := ⟨by rw [List.length_drop, HYL.out]; have := HD.out; omega⟩
    have HTA : Aside0 ((Y.take N).take ((N : Int)).toNat = Y.take N ∧ (Y.drop N).take ((R : Int)).toNat = Y.drop N) := ⟨⟨List.take_of_length_le (by rw [List.length_take]; omega), List.take_of_length_le (by rw [List.length_drop, HYL.out]; have := HQ.out; omega)⟩⟩
    go_upto_region 18 with (go_at_call 25; go_must (refine (drainI_calls (Y.take N) false (N : Int) HT4.out).mono ?_; rintro e w5 ⟨va, rfl, h5, h6, k6⟩; rw [HTA.out.1] at h5; have HA5 := Aside0.mk h5; have HS5 : Aside0 (Sw 62 w w5 p c R (V (Y.drop N)) false) := ⟨HS4.out.kept k6 (fun e => HPQ.out.2.2.1 e) (fun e => HPQ.out.2.1 e) h6.bl⟩; have HR5 := Aside0.mk (Kd.R_kept HR4.out k6 (fun k hk e => hk.2.2.2 e)); have HD5 : Aside0 (d < w4.heap.size ∧ c < w4.heap.size ∧ w4.heap.size ≤ w5.heap.size) := ⟨HT4.out.sp.clt, HS4.out.sp.clt, k6.1⟩; clear h5 h6 k6 HT4 HS4 HR4; obtain ⟨Aa, ca, rfl⟩ := Kd.R_slice HA5.out; rw [HLA.out] at HA5 ⊢))
    go_upto_region 19 with (go_at_call 25; go_must (refine (drainI_calls (Y.drop N) false (R : Int) HS5.out).mono ?_; rintro e w6 ⟨vb, rfl, h5, h6, k6⟩; rw [HTA.out.2] at h5; have HB6 := Aside0.mk h5; have HBL := Aside0.mk h6.bl; have HR6 := Aside0.mk (Kd.R_kept HR5.out k6 (fun k hk e => hk.2.1 e)); have HA6 := Aside0.mk (Kd.R_kept (Kd.R_mono (Kd.R_bound HA5.out) (fun k hk => hk.2.1)) k6 (fun k hk e => by have := HD5.out; omega)); clear h5 h6 k6 HS5 HR5 HA5; obtain ⟨Ab, cb, rfl⟩ := Kd.R_slice HB6.out; rw [HLB.out] at HB6 ⊢))
    have HCA : Aside0 (Kd.C (Kd.int .i64) w6 Aa (Y.take N).length (Y.take N)) := ⟨(Kd.R_reads' HA6.out).2.2⟩
    have HCB : Aside0 (Kd.C (Kd.int .i64) w6 Ab (Y.drop N).length (Y.drop N)) := ⟨(Kd.R_reads' HB6.out).2.2⟩
    have HCW : Aside0 (Kd.C (Kd.int .i64) w6 A Y.length Y ∧ n ≤ cc) := ⟨(Kd.R_reads' HR6.out).2.2, (Kd.R_reads' HR6.out).2.1⟩
    rw [HLA.out] at HCA
    rw [HLB.out] at HCB
    rw [HYL.out] at HCW
    clear HA6 HB6 HR6
    have Hx : Aside0 ((Kd.int .i64).R 3 w6 w6.heap.size (fun _ => True) (.slice none 0 0) ([] ++ (Y.take N).take 0)) := ⟨Kd.R_nil _ _ _ _ _⟩
    have HBx : Aside0 (Below w6.heap.size w6 w6) := ⟨Below.refl _ _⟩
    have HPLx : Aside0 (([] : List Int).length = 0) := ⟨rfl⟩
    go_upto_block 2 with (fail)
    go_cut [16, 19] (fun va vi wc => ∃ (A : Option Addr) (cc : Nat), va = .slice A (0 + N) cc ∧ Aside0 ((Kd.int .i64).R 3 wc w6.heap.size (fun _ => True) (.slice A (0 + N) cc) (([] : List Int) ++ Y.take N)) ∧ Aside0 (Below w6.heap.size w6 wc))
    case first =>
      go_wp2
      go_loopg [16, 19] N (fun kq va vi w' => ∃ (m : Nat) (A : Option Addr) (cc : Nat), va = .slice A (0 + m) cc ∧ vi = .int .i64 (m : Int) ∧ Aside0 (m + kq = N) ∧ Aside0 ((Kd.int .i64).R 3 w' w6.heap.size (fun _ => True) (.slice A (0 + m) cc) (([] : List Int) ++ (Y.take N).take m)) ∧ Aside0 (Below w6.heap.size w6 w'))
      case atStart => exact ⟨0, none, 0, rfl, rfl, ⟨by omega⟩, Hx, HBx⟩
      case round =>
        clear Hx HBx
        obtain ⟨m, A, cc, rfl, rfl, HI, HR, HB⟩ := hrel
        cases gk with
        | zero =>
          obtain rfl : N = m := by have := HI.out; omega
          have HR2 : Aside0 ((Kd.int .i64).R 3 wr w6.heap.size (fun _ => True) (.slice A (0 + N) cc) (([] : List Int) ++ Y.take N)) := ⟨by have h := HR.out; rw [List.take_of_length_le (Nat.le_of_eq HLA.out)] at h; exact h⟩
          go_wp2
          go_meet
          case rel => exact ⟨A, cc, rfl, HR2, HB⟩
        | succ kq =>
          have HC1 : Aside0 (m < N) := ⟨by have := HI.out; omega⟩
          have c0 := HC1.out
          have c1b : decide ((m : Int) < (N : Int)) = true := decide_eq_true (by omega); have c1i : ((m : Int) < (N : Int)) = True := eq_true (by omega); have c1n : (m < N) = True := eq_true (by omega)
          have p0 : (0 ≤ (m : Int)) = True := eq_true (by omega)
          have hw1 : wrap64 ((m : Int) + 1) = (m : Int) + 1 := w64 (by omega) (by have := HQL.out; have := HN.out; have := HD.out; omega)
          obtain ⟨ad, ea, hx⟩ := Kd.at_int (Kd.C_below HCA.out HB.out) (m : Int) (by omega) (by omega)
          subst ea
          simp only [Int.toNat_natCast] at hx
          have HT : Aside0 ((([] : List Int) ++ (Y.take N).take m) ++ [rd (Y.take N) (m : Int)] = ([] : List Int) ++ (Y.take N).take (m + 1)) := ⟨by rw [List.append_assoc, rd_get _ m (by rw [HLA.out]; exact c0), take_one _ m (by rw [HLA.out]; exact c0)]⟩
          have HLN : Aside0 ((([] : List Int) ++ (Y.take N).take m).length = 0 + m) := ⟨by rw [List.length_append, HPLx.out, List.length_take, HLA.out]; omega⟩
          generalize rd (Y.take N) (m : Int) = x at hx HT
          clear c0
          go_wp2_with (((with_reducible refine gate_builtin (b := .append) (xs := #[.tmp 111, .tmp 116]) rfl ?_); at_builtin; go_must (refine Kd.R_append (Kd.int .i64) (w0 := w6) (W := wr) w6.heap.size rfl (.tmp 111) (.tmp 116) 22 3 (.int .i64 0) 8 rfl Try.underlying22 info3 rfl (by decide) (by omega) (.slice A (0 + m) cc) (([] : List Int) ++ (Y.take N).take m) x [.int .i64 x] (fun _ => True) (fun _ => False) rfl rfl rfl (fun _ hk => hk.elim) (fun _ _ => trivial) HR.out HB.out HB.out.size (by rw [HLN.out]; have := HC1.out; have := HQL.out; have := HN.out; have := HD.out; omega) ?_; intro v7 w7 hr7 hb7 hg7 hat7; rw [HT.out] at hr7; have HR7 := Aside0.mk hr7; have HB7 := Aside0.mk hb7; clear hr7 hb7 hg7 hat7 HR HB hx)))
          obtain ⟨A7, cc7, rfl⟩ := Kd.R_slice HR7.out
          have hl7 : (([] : List Int) ++ (Y.take N).take (m + 1)).length = 0 + (m + 1) := by rw [List.length_append, HPLx.out, List.length_take, HLA.out]; have := HC1.out; omega
          rw [hl7] at HR7 ⊢
          clear hl7
          go_roundg kq
          case measure => omega
          case rel => exact ⟨m + 1, A7, cc7, rfl, by push_cast; rw [hw1], ⟨by have := HI.out; omega⟩, HR7, HB7⟩
    case rest =>
    clear Hx HBx

    obtain ⟨A1, cc1, rfl, H1, HB1⟩ := hcut
    rw [Nat.zero_add] at H1 ⊢
    have Hy : Aside0 ((Kd.int .i64).R 3 wc w6.heap.size (fun _ => True) (.slice A1 (N + 0) cc1) (Y.take N ++ (Y.drop N).take 0)) := ⟨by have h := H1.out; simpa using h⟩
    have HBy := HB1
    have HPLy := HLA
    clear H1 HB1
    go_upto_block 4 with (fail)
    go_cut [16, 20] (fun va vi wc => ∃ (A : Option Addr) (cc : Nat), va = .slice A (N + D) cc ∧ Aside0 ((Kd.int .i64).R 3 wc w6.heap.size (fun _ => True) (.slice A (N + D) cc) (Y.take N ++ Y.drop N)) ∧ Aside0 (Below w6.heap.size w6 wc))
    case first =>
      go_wp2
      go_loopg [16, 20] D (fun kq va vi w' => ∃ (m : Nat) (A : Option Addr) (cc : Nat), va = .slice A (N + m) cc ∧ vi = .int .i64 (m : Int) ∧ Aside0 (m + kq = D) ∧ Aside0 ((Kd.int .i64).R 3 w' w6.heap.size (fun _ => True) (.slice A (N + m) cc) (Y.take N ++ (Y.drop N).take m)) ∧ Aside0 (Below w6.heap.size w6 w'))
      case atStart => exact ⟨0, A1, cc1, rfl, rfl, ⟨by omega⟩, Hy, HBy⟩
      case round =>
        clear Hy HBy
        obtain ⟨m, A, cc, rfl, rfl, HI, HR, HB⟩ := hrel
        cases gk with
        | zero =>
          obtain rfl : D = m := by have := HI.out; omega
          have HR2 : Aside0 ((Kd.int .i64).R 3 wr w6.heap.size (fun _ => True) (.slice A (N + D) cc) (Y.take N ++ Y.drop N)) := ⟨by have h := HR.out; rw [List.take_of_length_le (Nat.le_of_eq HLB.out)] at h; exact h⟩
          go_wp2
          go_meet
          case rel => exact ⟨A, cc, rfl, HR2, HB⟩
        | succ kq =>
          have HC1 : Aside0 (m < D) := ⟨by have := HI.out; omega⟩
          have c0 := HC1.out
          have c1b : decide ((m : Int) < (D : Int)) = true := decide_eq_true (by omega); have c1i : ((m : Int) < (D : Int)) = True := eq_true (by omega); have c1n : (m < D) = True := eq_true (by omega)
          have p0 : (0 ≤ (m : Int)) = True := eq_true (by omega)
          have hw1 : wrap64 ((m : Int) + 1) = (m : Int) + 1 := w64 (by omega) (by have := HQL.out; have := HN.out; have := HD.out; omega)
          obtain ⟨ad, ea, hx⟩ := Kd.at_int (Kd.C_below HCB.out HB.out) (m : Int) (by omega) (by omega)
          subst ea
          simp only [Int.toNat_natCast] at hx
          have HT : Aside0 ((Y.take N ++ (Y.drop N).take m) ++ [rd (Y.drop N) (m : Int)] = Y.take N ++ (Y.drop N).take (m + 1)) := ⟨by rw [List.append_assoc, rd_get _ m (by rw [HLB.out]; exact c0), take_one _ m (by rw [HLB.out]; exact c0)]⟩
          have HLN : Aside0 ((Y.take N ++ (Y.drop N).take m).length = N + m) := ⟨by rw [List.length_append, HPLy.out, List.length_take, HLB.out]; omega⟩
          generalize rd (Y.drop N) (m : Int) = x at hx HT
          clear c0
          go_wp2_with (((with_reducible refine gate_builtin (b := .append) (xs := #[.tmp 124, .tmp 129]) rfl ?_); at_builtin; go_must (refine Kd.R_append (Kd.int .i64) (w0 := w6) (W := wr) w6.heap.size rfl (.tmp 124) (.tmp 129) 22 3 (.int .i64 0) 8 rfl Try.underlying22 info3 rfl (by decide) (by omega) (.slice A (N + m) cc) (Y.take N ++ (Y.drop N).take m) x [.int .i64 x] (fun _ => True) (fun _ => False) rfl rfl rfl (fun _ hk => hk.elim) (fun _ _ => trivial) HR.out HB.out HB.out.size (by rw [HLN.out]; have := HC1.out; have := HQL.out; have := HN.out; have := HD.out; omega) ?_; intro v7 w7 hr7 hb7 hg7 hat7; rw [HT.out] at hr7; have HR7 := Aside0.mk hr7; have HB7 := Aside0.mk hb7; clear hr7 hb7 hg7 hat7 HR HB hx)))
          obtain ⟨A7, cc7, rfl⟩ := Kd.R_slice HR7.out
          have hl7 : (Y.take N ++ (Y.drop N).take (m + 1)).length = N + (m + 1) := by rw [List.length_append, HPLy.out, List.length_take, HLB.out]; have := HC1.out; omega
          rw [hl7] at HR7 ⊢
          clear hl7
          go_roundg kq
          case measure => omega
          case rel => exact ⟨m + 1, A7, cc7, rfl, by push_cast; rw [hw1], ⟨by have := HI.out; omega⟩, HR7, HB7⟩
    case rest =>
    clear Hy HBy

    obtain ⟨A2, cc2, rfl, H2, HB2⟩ := hcut
    rw [List.take_append_drop, HD.out] at H2
    rw [HD.out]
    have FIN : Aside0 (Calls Try.prog 24 #[.slice A2 n cc2, .slice A n cc] wc fun e w' => e = .returned (.bool true) ∧ Drawn0 wc w') := ⟨by
      have h2 := Kd.R_reads' H2.out
      have h3 := h2.2.2
      rw [HYL.out] at h3
      exact sameInts_calls Y HYL.out (by have := HQL.out; unfold maxLen; omega) h3 h2.2.1 (Kd.C_below HCW.out.1 HB2.out) HCW.out.2⟩
    go_wp2_with (first | (go_at_call 24; refine (FIN.out).mono ?_; rintro e w7 ⟨rfl, h7⟩; have HB7 := Aside0.mk (below_then HBL.out HBL.out.size (below_then HB2.out HB2.out.size h7.below)); clear h7) | (go_at_call 14; refine (known_calls _).mono ?_; rintro e w8 ⟨rfl, h8⟩; have HB := Aside0.mk (below_then HB7.out HB7.out.size h8); clear h8))
    go_ret
    exact ⟨rfl, HB.out⟩
theorem SpoolKeeps_calls (a0 a1 : Int) (A0 : Option Addr) (c0 : Nat) (l0 : List Int) (most : Int) (w : World) (hC : Kd.C (Kd.int .i64) w A0 l0.length l0) (hm : l0.length ≤ maxLen) :
    Calls Try.prog 6 #[.int .i64 a0, .int .i64 a1, .slice A0 l0.length c0, .int .i64 most] w fun e w' => e = .returned (.bool true) ∧ Below w.heap.size w w' := by
  by_cases h0 : a0 < 0 ∨ 1024 < a0
  · exact SpoolKeeps_no1 a0 a1 _ most w h0
  · obtain ⟨R, rfl⟩ : ∃ R : Nat, a0 = (R : Int) := ⟨a0.toNat, by omega⟩
    by_cases h1 : a1 < 0 ∨ 1024 < a1
    · exact SpoolKeeps_no2 R (by omega) a1 _ most w h1
    · obtain ⟨O, rfl⟩ : ∃ O : Nat, a1 = (O : Int) := ⟨a1.toNat, by omega⟩
      exact SpoolKeeps_yes R O (by omega) (by omega) A0 c0 l0 most w hC hm
end Go.Proofs.Ytkohkcnajddcoaa.QN
