/- The law SpoolOrder: the walk, with what is known at each place; it returns true for every input. -/
import Derived.Test.YtkohkcnajddcoaaDrain
namespace Go.Proofs.Ytkohkcnajddcoaa.QN
open Go.RowKit Go.Conc Go.Proofs.YtkohkcnajddcoaaW.PrintWords Go.Proofs.YtkohkcnajddcoaaW.PrintLast Go.Proofs.YtkohkcnajddcoaaW.PrintMore
set_option linter.unusedVariables false
set_option linter.unusedSimpArgs false

theorem w64 {x : Int} (h0 : -9223372036854775808 ≤ x) (h1 : x ≤ 9223372036854775807) : wrap64 x = x := by unfold wrap64; omega
theorem rdOf_get {α : Type} (d : α) (l : List α) (m : Nat) (h : m < l.length) : rdOf d l (m : Int) = l[m] := by simp [rdOf, h]
theorem sameTexts_l0 (l : List ByteArray) (hm : l.length ≤ maxLen) : ∀ (n m k : Nat), m + n = l.length → n < k → changelingref01_SameTexts.l0 k l l (m : Int) = some true := by
  intro n
  induction n with
  | zero =>
    intro m k h1 h2
    obtain ⟨k, rfl⟩ : ∃ k', k = k' + 1 := ⟨k - 1, by omega⟩
    simp only [changelingref01_SameTexts.l0]
    rw [if_neg (by omega)]
  | succ n ih =>
    intro m k h1 h2
    obtain ⟨k, rfl⟩ : ∃ k', k = k' + 1 := ⟨k - 1, by omega⟩
    simp only [changelingref01_SameTexts.l0]
    unfold maxLen at hm
    rw [if_pos (by omega), if_pos (by omega), if_pos (by omega), if_pos trivial, w64 (by omega) (by omega)]
    have := ih (m + 1) k (by omega) (by omega)
    push_cast at this
    exact this
theorem sameTexts_self (l : List ByteArray) (hm : l.length ≤ maxLen) : changelingref01_SameTexts.f (l.length + 1) l l = some true := by
  unfold changelingref01_SameTexts.f
  rw [if_pos rfl]
  exact sameTexts_l0 l hm l.length 0 _ (by omega) (by omega)
theorem sw_drawn {T : TypeId} {w0 W W2 : World} {p c cap : Nat} {xs : List Value} {cl : Bool} (h : Sw T w0 W p c cap xs cl) (hd : Drawn0 W W2) : Sw T w0 W2 p c cap xs cl := by
  obtain ⟨m, rfl⟩ := hd
  exact h.below (pw_below_drewN (Below.refl _ _) m)
def VS (l : List ByteArray) : List Value := l.map (fun x => Value.string x)
theorem VS_len (l : List ByteArray) : (VS l).length = l.length := by simp [VS]
theorem VS_take (l : List ByteArray) (m : Nat) (h : m < l.length) : VS (l.take m) ++ [.string (rdOf ByteArray.empty l (m : Int))] = VS (l.take (m + 1)) := by
  rw [rdOf_get _ l m h, ← List.take_append_getElem h]
  simp only [VS, List.map_append, List.map_cons, List.map_nil]
set_option maxHeartbeats 8000000 in
set_option maxRecDepth 100000 in
theorem SpoolOrder_calls (a0 : Int) (A0 : Option Addr) (c0 : Nat) (l0 : List ByteArray) (w : World) (hC : Kd.C Kd.string w A0 l0.length l0) (hm : l0.length ≤ maxLen) :
    Calls Try.prog 4 #[.int .i64 a0, .slice A0 l0.length c0] w fun e w' => e = .returned (.bool true) ∧ Below w.heap.size w w' := by
  have HC := Aside0.mk hC
  have HM := Aside0.mk hm
  clear hC hm
  by_cases hr : 0 ≤ a0 ∧ a0 ≤ 1024
  · obtain ⟨R, rfl⟩ : ∃ R : Nat, a0 = (R : Int) := ⟨a0.toNat, by omega⟩
    have HRM : Aside0 (R ≤ 1024) := ⟨by omega⟩
    clear hr
    go_enter Try.func4, Try.ntmps4
    go_upto_region 6 with (go_at_call 15; go_must (refine (swS_new (w0 := w) R HRM.out (Below.refl _ _)).mono ?_; rintro e w1 ⟨p, c, rfl, h1, -, -, -⟩; have HS := Aside0.mk h1; have HR0 : Aside0 (Kd.string.R 9 w1 w.heap.size (fun k => k ≠ p ∧ k ≠ c) (.slice none 0 0) (l0.take 0)) := ⟨Kd.R_nil _ _ _ _ _⟩; clear h1))
    go_upto_block 0 with (fail)
    go_cut [7, 8] (fun v7 v8 wc => ∃ (q : Nat) (A : Option Addr) (cc : Nat), v7 = .slice A q cc ∧ Aside0 (q = min l0.length R) ∧ Aside0 (Kd.string.R 9 wc w.heap.size (fun k => k ≠ p ∧ k ≠ c) (.slice A q cc) (l0.take q)) ∧ Aside0 (Sw 67 w wc p c R (VS (l0.take q)) false))
    case first =>
      go_wp2
      go_loopg [7, 8] l0.length (fun kq v7 v8 w' => ∃ (m q : Nat) (A : Option Addr) (cc : Nat), v7 = .slice A q cc ∧ v8 = .int .i64 (m : Int) ∧ Aside0 (m + kq = l0.length) ∧ Aside0 (q = min m R) ∧ Aside0 (Kd.string.R 9 w' w.heap.size (fun k => k ≠ p ∧ k ≠ c) (.slice A q cc) (l0.take q)) ∧ Aside0 (Sw 67 w w' p c R (VS (l0.take q)) false))
      case atStart => exact ⟨0, 0, none, 0, rfl, rfl, ⟨by omega⟩, ⟨by omega⟩, HR0, HS⟩
      case round =>
        clear HS HR0
        obtain ⟨m, q, A, cc, rfl, rfl, HI, HQ, HR, HS⟩ := hrel
        cases gk with
        | zero =>
          have c1b : decide ((m : Int) < (l0.length : Int)) = false := decide_eq_false (by have := HI.out; omega); have c1i : ((m : Int) < (l0.length : Int)) = False := eq_false (by have := HI.out; omega); have c1n : (m < l0.length) = False := eq_false (by have := HI.out; omega)
          have HQ2 : Aside0 (q = min l0.length R) := ⟨by have := HI.out; have := HQ.out; omega⟩
          go_wp2
          go_meet
          case rel => exact ⟨q, A, cc, rfl, HQ2, HR, HS⟩
        | succ kq =>
          have HC1 : Aside0 (m < l0.length) := ⟨by have := HI.out; omega⟩
          have c1b : decide ((m : Int) < (l0.length : Int)) = true := decide_eq_true (by have := HI.out; omega); have c1i : ((m : Int) < (l0.length : Int)) = True := eq_true (by have := HI.out; omega); have c1n : (m < l0.length) = True := eq_true (by have := HI.out; omega)
          have p0 : (0 ≤ (m : Int)) = True := eq_true (by omega)
          have hw1 : wrap64 ((m : Int) + 1) = (m : Int) + 1 := w64 (by omega) (by have := HM.out; have := HI.out; unfold maxLen at *; omega)
          obtain ⟨ad, ea, hx⟩ := Kd.at_string (Kd.C_below HC.out HS.out.bl) (m : Int) (by omega) (by have := HI.out; omega)
          subst ea
          simp only [Int.toNat_natCast] at hx
          by_cases c2 : m < R
          · obtain rfl : q = m := by have := HQ.out; omega
            have HC2 := Aside0.mk c2
            have HX := Aside0.mk (VS_take l0 q HC1.out)
            have HT : Aside0 (l0.take q ++ [rdOf ByteArray.empty l0 (q : Int)] = l0.take (q + 1)) := ⟨by rw [rdOf_get _ l0 q HC1.out]; exact take_one l0 q HC1.out⟩
            have HP : Aside0 (p < wr.heap.size) := ⟨HS.out.sp.plt⟩
            have HG : Aside0 (c < wr.heap.size) := ⟨HS.out.sp.clt⟩
            have d1 : decide ((R : Int) < (q : Int) + 1) = false := decide_eq_false (by omega)
            have d2 : ((R : Int) < (q : Int) + 1) = False := eq_false (by omega)
            clear c2
            go_upto_region 11 with (go_at_call 17; go_must (refine (swS_put (.string (rdOf ByteArray.empty l0 (q : Int))) HS.out (by rw [VS_len, List.length_take]; have := HC2.out; omega)).mono ?_; rintro e w2 ⟨rfl, h2, k2⟩; rw [HX.out] at h2; have HS2 := Aside0.mk h2; have HR2 := Aside0.mk (Kd.R_kept HR.out k2 (fun k hk e => hk.2 e)); have HZ2 := Aside0.mk k2.1; clear h2 k2 HS HR hx))
            obtain ⟨ad2, ea2, hx⟩ := Kd.at_string (Kd.C_below HC.out HS2.out.bl) (q : Int) (by omega) (by have := HC1.out; omega)
            obtain rfl : ad = ad2 := Option.some.inj ea2
            simp only [Int.toNat_natCast] at hx
            clear ea2
            go_upto_region 12 with (((with_reducible refine gate_builtin (b := .append) (xs := #[.tmp 40, .tmp 45]) rfl ?_); at_builtin; go_must (refine Kd.R_append Kd.string (w0 := w) (W := w2) w.heap.size rfl (.tmp 40) (.tmp 45) 33 9 (.string ⟨#[]⟩) 16 rfl Try.underlying33 info9 rfl (by decide) (by omega) (.slice A q cc) (l0.take q) (rdOf ByteArray.empty l0 (q : Int)) [.string (rdOf ByteArray.empty l0 (q : Int))] (fun k => k ≠ p ∧ k ≠ c) (fun _ => False) rfl rfl rfl (fun _ hk => hk.elim) (fun k hk => ⟨by have := HP.out; have := HZ2.out; omega, by have := HG.out; have := HZ2.out; omega⟩) HR2.out HS2.out.bl HS2.out.bl.size (by rw [List.length_take]; have := HC2.out; have := HRM.out; omega) ?_; intro v7 w7 hr7 hb7 hg7 hat7; rw [HT.out] at hr7; have HR7 := Aside0.mk hr7; have hrow : ∀ k, (Value.slice A q cc).ownBlock = some k → k ≠ p ∧ k ≠ c := fun k hk => HR2.out.1 k hk; have HS7 : Aside0 (Sw 67 w w7 p c R (VS (l0.take (q + 1))) false) := ⟨HS2.out.kept (kept_grown hg7) (fun e => (hrow p e.symm).1 rfl) (fun e => (hrow c e.symm).2 rfl) hb7⟩; clear hr7 hb7 hg7 hat7 hrow HS2 HR2 hx)))
            obtain ⟨A7, cc7, rfl⟩ := Kd.R_slice HR7.out
            have hl7 : (l0.take (q + 1)).length = q + 1 := by rw [List.length_take]; have := HC1.out; omega
            rw [hl7] at HR7 ⊢
            clear hl7
            have hvl : (VS (l0.take (q + 1))).length = q + 1 := by rw [VS_len, List.length_take]; have := HC1.out; omega
            go_wp2_with (go_at_call 18; go_must (refine (lenS_calls HS7.out.sp).mono ?_; rintro e w4 ⟨rfl, rfl⟩))
            go_roundg kq
            case measure => omega
            case rel => exact ⟨q + 1, q + 1, A7, cc7, rfl, by push_cast; rw [hw1], ⟨by have := HI.out; omega⟩, ⟨by have := HC2.out; omega⟩, HR7, HS7⟩
          · obtain rfl : q = R := by have := HQ.out; omega
            have HC2 : Aside0 (q ≤ m) := ⟨by omega⟩
            have hvl : (VS (l0.take q)).length = q := by rw [VS_len, List.length_take]; have := HC1.out; omega
            clear c2
            go_wp2_with (first | (go_at_call 17; refine (putS_full _ HS.out.sp (by rw [hvl])).mono ?_; rintro e w4 ⟨rfl, rfl⟩) | (go_at_call 18; refine (lenS_calls HS.out.sp).mono ?_; rintro e w4 ⟨rfl, rfl⟩))
            go_roundg kq
            case measure => omega
            case rel => exact ⟨m + 1, q, A, cc, rfl, by push_cast; rw [hw1], ⟨by have := HI.out; omega⟩, ⟨by have := HC2.out; omega⟩, HR, HS⟩
    case rest =>
      clear HS HR0
      obtain ⟨q, A, cc, rfl, HQ, HR, HS⟩ := hcut
      have hcl : Aside0 ((l0.take q).length = q) := ⟨by rw [List.length_take]; have := HQ.out; omega⟩
      have HE : Aside0 ((l0.take q).take ((R : Int)).toNat = l0.take q ∧ (l0.take q).drop ((R : Int)).toNat = []) := ⟨⟨List.take_of_length_le (by rw [hcl.out]; have := HQ.out; omega), List.drop_eq_nil_of_le (by rw [hcl.out]; have := HQ.out; omega)⟩⟩
      have HML : Aside0 ((l0.take q).length ≤ maxLen) := ⟨by rw [hcl.out]; have := HM.out; have := HQ.out; omega⟩
      have key : ∀ (K : Prop), (∀ (W : World), Sw 67 w W p c R (VS (l0.take q)) false → Kd.string.R 9 W w.heap.size (fun k => k ≠ p ∧ k ≠ c) (.slice A q cc) (l0.take q) → True) → True := fun _ _ => trivial
      clear key
      have finish : ∀ (W2 W3 : World) (A5 : Option Addr) (c5 : Nat), Kd.string.R 9 W2 W3.heap.size (fun _ => True) (.slice A5 (l0.take q).length c5) (l0.take q) → Kd.string.R 9 W2 w.heap.size (fun k => k ≠ p ∧ k ≠ c) (.slice A q cc) (l0.take q) → Calls Try.prog 19 #[.slice A5 q c5, .slice A q cc] W2 fun e w' => e = .returned (.bool true) ∧ Drawn0 W2 w' := by
        intro W2 W3 A5 c5 h1 h2
        have r1 := Kd.R_reads' h1
        have r2 := Kd.R_reads' h2
        have hh := changelingref01_SameTexts.calls ((l0.take q).length + 1) A5 c5 (l0.take q) A cc (l0.take q) true W2 r1.2.2 (by have := r1.2.1; omega) r2.2.2 (by rw [hcl.out]; exact r2.2.1) (sameTexts_self _ HML.out)
        rw [hcl.out] at hh
        exact hh
      have FIN := Aside0.mk finish
      clear finish
      generalize hY : l0.take q = Y at *
      by_cases c1 : R ≤ l0.length
      · obtain rfl : q = R := by have := HQ.out; omega
        have b1 : decide ((q : Int) ≤ (l0.length : Int)) = true := decide_eq_true (by omega); have b2 : ((q : Int) ≤ (l0.length : Int)) = True := eq_true (by omega); have b3 : (q ≤ l0.length) = True := eq_true (by omega); have b4 : ((l0.length : Int) < (q : Int)) = False := eq_false (by omega); have b5 : (l0.length < q) = False := eq_false (by omega)
        clear c1
        go_wp2_with (first | (go_at_call 20; refine (drainS_calls Y false (q : Int) HS.out).mono ?_; rintro e w5 ⟨vo, rfl, h5, h6, k6⟩; rw [HE.out.1] at h5; rw [HE.out.2] at h6; have HO5 := Aside0.mk h5; have HS5 := Aside0.mk h6; have HR5 := Aside0.mk (Kd.R_kept HR.out k6 (fun k hk e => hk.2 e)); clear h5 h6 k6 HS HR; obtain ⟨A5, c5, rfl⟩ := Kd.R_slice HO5.out) | (go_at_call 19; rw [hcl.out]; refine (FIN.out _ _ _ _ HO5.out HR5.out).mono ?_; rintro e w6 ⟨rfl, h6⟩; have HS6 := Aside0.mk (sw_drawn HS5.out h6); clear h6 HS5 HO5 HR5) | (go_at_call 18; refine (lenS_calls HS6.out.sp).mono ?_; rintro e w7 ⟨rfl, rfl⟩) | (go_at_call 14; refine (known_calls _).mono ?_; rintro e w8 ⟨rfl, h8⟩; have HB := Aside0.mk (below_then HS6.out.bl HS6.out.bl.size h8); clear h8))
        go_ret
        exact ⟨rfl, HB.out⟩
      · obtain rfl : q = l0.length := by have := HQ.out; omega
        have b1 : decide ((R : Int) ≤ (l0.length : Int)) = false := decide_eq_false (by omega); have b2 : ((R : Int) ≤ (l0.length : Int)) = False := eq_false (by omega); have b3 : (R ≤ l0.length) = False := eq_false (by omega); have b4 : ((l0.length : Int) < (R : Int)) = True := eq_true (by omega); have b5 : (l0.length < R) = True := eq_true (by omega)
        clear c1
        go_wp2_with (first | (go_at_call 20; refine (drainS_calls Y false (R : Int) HS.out).mono ?_; rintro e w5 ⟨vo, rfl, h5, h6, k6⟩; rw [HE.out.1] at h5; rw [HE.out.2] at h6; have HO5 := Aside0.mk h5; have HS5 := Aside0.mk h6; have HR5 := Aside0.mk (Kd.R_kept HR.out k6 (fun k hk e => hk.2 e)); clear h5 h6 k6 HS HR; obtain ⟨A5, c5, rfl⟩ := Kd.R_slice HO5.out) | (go_at_call 19; rw [hcl.out]; refine (FIN.out _ _ _ _ HO5.out HR5.out).mono ?_; rintro e w6 ⟨rfl, h6⟩; have HS6 := Aside0.mk (sw_drawn HS5.out h6); clear h6 HS5 HO5 HR5) | (go_at_call 18; refine (lenS_calls HS6.out.sp).mono ?_; rintro e w7 ⟨rfl, rfl⟩) | (go_at_call 14; refine (known_calls _).mono ?_; rintro e w8 ⟨rfl, h8⟩; have HB := Aside0.mk (below_then HS6.out.bl HS6.out.bl.size h8); clear h8))
        go_ret
        exact ⟨rfl, HB.out⟩
  · have c1 : a0 < 0 ∨ 1024 < a0 := by omega
    have hr2 : changelingref03_Right.f a0 = some false := by
      unfold changelingref03_Right.f
      by_cases h0 : a0 ≥ 0
      · rw [if_pos h0, decide_eq_false (by omega)]
      · rw [if_neg h0]
    have HR := Aside0.mk hr2
    have H1 := Aside0.mk c1
    clear hr c1 hr2
    go_enter Try.func4, Try.ntmps4
    go_wp2_with (first | (go_at_call 15; refine (newS_no a0 H1.out).mono ?_; rintro e w1 ⟨rfl, rfl⟩) | (go_at_call 16; refine (changelingref03_Right.calls a0 false _ HR.out).mono ?_; rintro e w1 ⟨rfl, hd⟩; have HD := Aside0.mk hd; clear hd) | (go_at_call 14; refine (known_calls _).mono ?_; rintro e w5 ⟨rfl, h5⟩; have HB := Aside0.mk h5; clear h5))
    go_ret
    exact ⟨rfl, below_then HD.out.below HD.out.below.size HB.out⟩
end Go.Proofs.Ytkohkcnajddcoaa.QN
