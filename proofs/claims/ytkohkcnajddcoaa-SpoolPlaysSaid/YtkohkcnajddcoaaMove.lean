/- Move between two spools: so many go over as the other one has room for, and no more than was asked. -/
import Derived.Test.YtkohkcnajddcoaaDrain
import Derived.LaidEqlPtr
namespace Go.Proofs.Ytkohkcnajddcoaa.QN
open Go.RowKit Go.Conc Go.Proofs.YtkohkcnajddcoaaW.PrintWords Go.Proofs.YtkohkcnajddcoaaW.PrintLast Go.Proofs.YtkohkcnajddcoaaW.PrintMore
set_option linter.unusedVariables false
set_option linter.unusedSimpArgs false

theorem Sw.took {T : TypeId} {w0 W : World} {p c cap : Nat} {v : Value} {xs : List Value} {cl : Bool} (h : Sw T w0 W p c cap (v :: xs) cl) (s r : Nat) :
    Sw T w0 (W.setChan c cap ((v :: xs).toArray.extract 1 (v :: xs).toArray.size) cl s (r + 1) false) p c cap xs cl ∧ Kept W (W.setChan c cap ((v :: xs).toArray.extract 1 (v :: xs).toArray.size) cl s (r + 1) false) (fun k => k = c) := by
  have e : (v :: xs).toArray.extract 1 (v :: xs).toArray.size = xs.toArray := by simp
  rw [e]
  have h1 := h.sp.hl
  exact ⟨⟨h.sp.chan (xs' := xs) s (r + 1) (by simp at h1; omega), h.bl.trans (below_chan _ _ _ _ _ _ _ h.gl), h.pl, h.gl⟩, kept_chan _ _ _ _ _ _ _⟩
theorem size62 : ∃ j, Try.prog.info? 62 = some j ∧ j.size ≠ 0 := by
  have h : (Try.prog.info? 62).map (·.size) = some 2 := by kernel_rfl
  obtain ⟨i, hi, hb⟩ := Option.map_eq_some_iff.1 h
  exact ⟨i, hi, by omega⟩
theorem ptr_ne {w0 W : World} {p c cf q d ct : Nat} {xs ys : List Value} {clf clt : Bool} (hs : Sw 62 w0 W p c cf xs clf) (ht : Sw 62 w0 W q d ct ys clt) (hpq : p ≠ q) :
    (binOp .eql 23 (.pointer (some ⟨p, 0, none⟩)) (.pointer (some ⟨q, 0, none⟩))).run Try.prog W = .ok (.bool false) W := by
  obtain ⟨j, hj, hz⟩ := size62
  exact run_eql_ptr_other W Try.underlying23 hj hz (fun e => hpq (by injection e)) hs.sp.gb ht.sp.gb
theorem ptr_eq (W : World) (p : Nat) : (binOp .eql 23 (.pointer (some ⟨p, 0, none⟩)) (.pointer (some ⟨p, 0, none⟩))).run Try.prog W = .ok (.bool true) W := by
  obtain ⟨j, hj, hz⟩ := size62
  exact run_eql_ptr_same W _ Try.underlying23 hj
/-- How many go over. -/
def movN (n free : Nat) (shut : Bool) (most : Int) : Nat := if shut then 0 else min n (min free most.toNat)
set_option maxHeartbeats 4000000 in
set_option maxRecDepth 100000 in
theorem moveI_calls {w0 W : World} {p c cf q d ct : Nat} (xs ys : List Value) (clf clt : Bool) (most : Int) (hs : Sw 62 w0 W p c cf xs clf) (ht : Sw 62 w0 W q d ct ys clt) (hpq : p ≠ q) (hcd : c ≠ d) :
    Calls Try.prog 27 #[.pointer (some ⟨p, 0, none⟩), .pointer (some ⟨q, 0, none⟩), .int .i64 most] W fun e w' => e = .returned (.int .i64 (movN xs.length (ct - ys.length) clt most : Int)) ∧
      Sw 62 w0 w' p c cf (xs.drop (movN xs.length (ct - ys.length) clt most)) clf ∧ Sw 62 w0 w' q d ct (ys ++ xs.take (movN xs.length (ct - ys.length) clt most)) clt ∧ Kept W w' (fun k => k = c ∨ k = d) := by
  obtain ⟨N, hN⟩ : ∃ N, movN xs.length (ct - ys.length) clt most = N := ⟨_, rfl⟩
  rw [hN]
  have HN := Aside0.mk hN
  have HS : Aside0 (Sw 62 w0 W p c cf (xs.drop 0) clf) := ⟨hs⟩
  have HT : Aside0 (Sw 62 w0 W q d ct (ys ++ xs.take 0) clt) := ⟨by simpa using ht⟩
  have HK : Aside0 (Kept W W (fun k => k = c ∨ k = d)) := ⟨Kept.refl _ _⟩
  have HY : Aside0 (ys.length ≤ ct ∧ ct ≤ 1024 ∧ xs.length ≤ 1024) := ⟨⟨ht.sp.hl, ht.sp.hc, Nat.le_trans hs.sp.hl hs.sp.hc⟩⟩
  have HPQ : Aside0 (p ≠ q ∧ c ≠ d) := ⟨⟨hpq, hcd⟩⟩
  have HSS := Aside0.mk hs
  have hpn := ptr_ne hs ht hpq
  clear hs ht hN hpq hcd
  go_enter Try.func27, Try.ntmps27
  go_upto_block 0 with (go_at_call 30; go_must (refine (madeI_calls HSS.out.sp).mono ?_; rintro e w2 ⟨rfl, rfl⟩))
  try (with_reducible refine wp_scope_body noGoto_bodyPost ?_)
  try (with_reducible apply wp_label)
  try go_upto_block 0 with (go_at_call 30; go_must (refine (madeI_calls HSS.out.sp).mono ?_; rintro e w2 ⟨rfl, rfl⟩))
  try (with_reducible apply wp_label)
  try go_upto_block 0 with (fail)
  clear hpn
  go_cut [7] (fun v7 wc => v7 = .int .i64 (N : Int) ∧ Aside0 (Sw 62 w0 wc p c cf (xs.drop N) clf) ∧ Aside0 (Sw 62 w0 wc q d ct (ys ++ xs.take N) clt) ∧ Aside0 (Kept W wc (fun k => k = c ∨ k = d)))
  case first =>
    go_wp2
    go_loopg [7] N (fun kq v7 w' => ∃ m : Nat, v7 = .int .i64 (m : Int) ∧ Aside0 (m + kq = N) ∧ Aside0 (Sw 62 w0 w' p c cf (xs.drop m) clf) ∧ Aside0 (Sw 62 w0 w' q d ct (ys ++ xs.take m) clt) ∧ Aside0 (Kept W w' (fun k => k = c ∨ k = d)))
    case atStart => exact ⟨0, rfl, ⟨by omega⟩, HS, HT, HK⟩
    case round =>
      clear HS HT HK HSS
      obtain ⟨m, rfl, HI, HS, HT, HK⟩ := hrel
      have hc0 : wr.cell? ⟨p, 0, none⟩ = some (.chan (some c)) := (blk_cell HS.out.sp.gb 0).trans rfl
      by_cases e0 : most ≤ (m : Int)
      · have hm : m = N := by
          have h := HN.out; have := HI.out; unfold movN at h
          split at h <;> omega
        subst hm
        have e0b : decide ((m : Int) < most) = false := decide_eq_false (by omega)
        clear e0
        go_wp2
        go_meet
        case rel => exact ⟨rfl, HS, HT, HK⟩
      have e0b : decide ((m : Int) < most) = true := decide_eq_true (by omega)
      cases clt with
      | true =>
        have hm : m = N := by
          have h := HN.out; have := HI.out; unfold movN at h; simp at h; omega
        subst hm
        clear e0
        go_wp2_with (go_at_call 11; go_must (refine (openI_calls HT.out.sp).mono ?_; rintro e w2 ⟨rfl, rfl⟩))
        go_meet
        case rel => exact ⟨rfl, HS, HT, HK⟩
      | false =>
        obtain ⟨L, hL⟩ : ∃ L, (ys ++ xs.take m).length = L := ⟨_, rfl⟩
        have HL : Aside0 (L = ys.length + min m xs.length) := ⟨by rw [← hL, List.length_append, List.length_take]⟩
        by_cases e1 : ct ≤ L
        · have hm : m = N := by
            have h := HN.out; have := HI.out; have := HL.out; have := HY.out; unfold movN at h; simp at h; omega
          subst hm
          have e1b : decide ((L : Int) < (ct : Int)) = false := decide_eq_false (by omega); have e1i : ((L : Int) < (ct : Int)) = False := eq_false (by omega); have e1n : (L < ct) = False := eq_false (by omega)
          clear e0 e1
          go_wp2_with (first | (go_at_call 11; refine (openI_calls HT.out.sp).mono ?_; rintro e w2 ⟨rfl, rfl⟩) | (go_at_call 12; refine (lenI_calls HT.out.sp).mono ?_; rintro e w2 ⟨rfl, rfl⟩) | (go_at_call 29; refine (roomI_calls HT.out.sp).mono ?_; rintro e w2 ⟨rfl, rfl⟩))
          go_meet
          case rel => exact ⟨rfl, HS, HT, HK⟩
        have e1b : decide ((L : Int) < (ct : Int)) = true := decide_eq_true (by omega); have e1i : ((L : Int) < (ct : Int)) = True := eq_true (by omega); have e1n : (L < ct) = True := eq_true (by omega)
        by_cases e2 : m < xs.length
        · have HM1 : Aside0 (m < N ∧ m < xs.length ∧ L < ct) := ⟨by
            have h := HN.out; have := HI.out; have := HL.out; unfold movN at h; simp at h; omega⟩
          have HS1 : Aside0 (Sw 62 w0 wr p c cf (xs[m] :: xs.drop (m + 1)) clf) := ⟨by have h := HS.out; rw [drop_one xs m e2] at h; exact h⟩
          have HX : Aside0 (xs.take m ++ [xs[m]] = xs.take (m + 1)) := ⟨take_one xs m e2⟩
          generalize xs[m] = x at HS1 HX
          have hw1 : wrap64 ((m : Int) + 1) = (m : Int) + 1 := by have := HY.out; unfold wrap64; omega
          obtain ⟨s, r, hch⟩ := HS1.out.sp.gc
          have HF := Aside0.mk (HS1.out.took s r)
          clear e0 e1 e2 HS
          go_upto_region 6 with (first | (go_at_call 11; refine (openI_calls HT.out.sp).mono ?_; rintro e w2 ⟨rfl, rfl⟩) | (go_at_call 12; refine (lenI_calls HT.out.sp).mono ?_; rintro e w2 ⟨rfl, rfl⟩) | (go_at_call 29; refine (roomI_calls HT.out.sp).mono ?_; rintro e w2 ⟨rfl, rfl⟩))
          refine wp_sel_take (c := c) (cap := cf) (buf := (x :: xs.drop (m + 1)).toArray) (s := s) (r := r) (z := (.int .i64 0)) rfl (by simp [go_sem, execOp, rcase, Act.eval]) hch (by simp) ?_
          generalize wr.setChan c cf ((x :: xs.drop (m + 1)).toArray.extract 1 (x :: xs.drop (m + 1)).toArray.size) clf s (r + 1) false = w5 at HF ⊢
          have HS5 := Aside0.mk HF.out.1
          have HT5 : Aside0 (Sw 62 w0 w5 q d ct (ys ++ xs.take m) false) := ⟨HT.out.kept HF.out.2 (fun e => by
            obtain ⟨s', r', hh⟩ := HS1.out.sp.gc
            have := HT.out.sp.gb
            subst e
            rw [hh] at this
            cases this) (fun e => HPQ.out.2 e.symm) HS5.out.bl⟩
          have HK5 : Aside0 (Kept W w5 (fun k => k = c ∨ k = d)) := ⟨HK.out.then_ HF.out.2 (fun k hk => Or.inl (Or.inl hk))⟩
          clear HF HS1 HT HK hch hc0
          go_wp2_with (go_at_call 9; go_must (refine (swI_put x HT5.out (by rw [hL]; exact HM1.out.2.2)).mono ?_; rintro e w6 ⟨rfl, h6, k6⟩; rw [List.append_assoc, HX.out] at h6; have HT6 := Aside0.mk h6; have HS6 : Aside0 (Sw 62 w0 w6 p c cf (xs.drop (m + 1)) clf) := ⟨HS5.out.kept k6 (fun e => by
            obtain ⟨s', r', hh⟩ := HT5.out.sp.gc
            have := HS5.out.sp.gb
            subst e
            rw [hh] at this
            cases this) (fun e => HPQ.out.2 e) HT6.out.bl⟩; have HK6 : Aside0 (Kept W w6 (fun k => k = c ∨ k = d)) := ⟨HK5.out.then_ k6 (fun k hk => Or.inl (Or.inr hk))⟩; clear h6 k6 HT5 HS5 HK5))
          cases gk with
          | zero => have := HI.out; have := HM1.out; omega
          | succ kq =>
            go_roundg kq
            case measure => omega
            case rel => exact ⟨m + 1, by push_cast; rw [hw1], ⟨by have := HI.out; omega⟩, HS6, HT6, HK6⟩
        · have hm : m = N := by
            have h := HN.out; have := HI.out; unfold movN at h; simp at h; omega
          subst hm
          have HS1 : Aside0 (Sw 62 w0 wr p c cf [] clf) := ⟨by have h := HS.out; rw [List.drop_eq_nil_of_le (by omega)] at h; exact h⟩
          obtain ⟨s, r, hch⟩ := HS1.out.sp.gc
          clear e0 e1 e2
          go_upto_region 6 with (first | (go_at_call 11; refine (openI_calls HT.out.sp).mono ?_; rintro e w2 ⟨rfl, rfl⟩) | (go_at_call 12; refine (lenI_calls HT.out.sp).mono ?_; rintro e w2 ⟨rfl, rfl⟩) | (go_at_call 29; refine (roomI_calls HT.out.sp).mono ?_; rintro e w2 ⟨rfl, rfl⟩))
          cases clf with
          | false =>
            refine wp_sel_none (c := c) (cap := cf) (s := s) (r := r) (z := (.int .i64 0)) rfl (by simp [go_sem, execOp, rcase, Act.eval]) hch ?_
            go_wp2
            go_meet
            case rel => exact ⟨rfl, HS, HT, HK⟩
          | true =>
            refine wp_sel_shut (c := c) (cap := cf) (s := s) (r := r) (z := (.int .i64 0)) rfl (by simp [go_sem, execOp, rcase, Act.eval]) hch ?_
            go_wp2
            go_meet
            case rel => exact ⟨rfl, HS, HT, HK⟩
  case rest =>
    clear HS HT HK HSS
    obtain ⟨rfl, HS, HT, HK⟩ := hcut
    go_wp2
    go_ret
    exact ⟨rfl, HS.out, HT.out, HK.out⟩
end Go.Proofs.Ytkohkcnajddcoaa.QN
