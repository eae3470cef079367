/- Drain of a spool: it hands back the first so many, in their order, and the spool holds the others. -/
import Derived.Test.YtkohkcnajddcoaaKno
namespace Go.Proofs.Ytkohkcnajddcoaa.QN
open Go.RowKit Go.Conc Go.Proofs.YtkohkcnajddcoaaW.PrintWords Go.Proofs.YtkohkcnajddcoaaW.PrintLast Go.Proofs.YtkohkcnajddcoaaW.PrintMore
set_option linter.unusedVariables false
set_option linter.unusedSimpArgs false

theorem info9 : (Try.prog.info? 9).map (fun i => (i.zero, i.size, i.bytes)) = some (some (.string ⟨#[]⟩), 1, 16) := by kernel_rfl
theorem drop_one {α : Type} (l : List α) (m : Nat) (h : m < l.length) : l.drop m = l[m] :: l.drop (m + 1) := List.drop_eq_getElem_cons h
theorem take_one {α : Type} (l : List α) (m : Nat) (h : m < l.length) : l.take m ++ [l[m]] = l.take (m + 1) := List.take_append_getElem h
theorem kept_grown {W W2 : World} {row : Option Nat} (hg : W.grownBy W2 row) : Kept W W2 (fun k => some k = row) := (Kept.refl W _).of_grown hg (fun k hk => Or.inl hk.symm)
set_option maxHeartbeats 4000000 in
set_option maxRecDepth 100000 in
theorem drainI_calls {w0 W : World} {p c cap : Nat} (xs : List Int) (cl : Bool) (most : Int) (h : Sw 62 w0 W p c cap (xs.map (fun x : Int => Value.int .i64 x)) cl) :
    Calls Try.prog 25 #[.pointer (some ⟨p, 0, none⟩), .int .i64 most] W fun e w' => ∃ vo, e = .returned vo ∧ (Kd.int .i64).R 3 w' W.heap.size (fun _ => True) vo (xs.take most.toNat) ∧ Sw 62 w0 w' p c cap ((xs.drop most.toNat).map (fun x : Int => Value.int .i64 x)) cl ∧ Kept W w' (fun k => k = c) := by
  have HS := Aside0.mk h
  have HL : Aside0 (xs.length ≤ 1024) := ⟨by have h1 := h.sp.hl; have h2 := h.sp.hc; simp at h1; omega⟩
  have HP : Aside0 (p < W.heap.size) := ⟨h.sp.plt⟩
  have HG : Aside0 (c < W.heap.size) := ⟨h.sp.clt⟩
  have HW : Aside0 (w0.heap.size ≤ W.heap.size) := ⟨h.bl.size⟩
  have HK0 : Aside0 (Kept W W (fun k => k = c)) := ⟨Kept.refl _ _⟩
  have HR0 : Aside0 ((Kd.int .i64).R 3 W W.heap.size (fun _ => True) (.slice none 0 0) (xs.take 0)) := ⟨Kd.R_nil _ _ _ _ _⟩
  clear h
  go_enter Try.func25, Try.ntmps25
  go_upto_block 0 with (fail)
  go_cut [5] (fun v5 wc => ∃ (A : Option Addr) (n cc : Nat), v5 = .slice A n cc ∧ Aside0 ((Kd.int .i64).R 3 wc W.heap.size (fun _ => True) (.slice A n cc) (xs.take most.toNat)) ∧ Aside0 (Sw 62 w0 wc p c cap ((xs.drop most.toNat).map (fun x : Int => Value.int .i64 x)) cl) ∧ Aside0 (Kept W wc (fun k => k = c)))
  case first =>
    go_wp2
    go_loopg [5] xs.length (fun kq v5 w' => ∃ (m : Nat) (A : Option Addr) (cc : Nat), v5 = .slice A m cc ∧ Aside0 (m + kq = xs.length) ∧ Aside0 ((m : Int) ≤ most ∨ m = 0) ∧ Aside0 ((Kd.int .i64).R 3 w' W.heap.size (fun _ => True) (.slice A m cc) (xs.take m)) ∧ Aside0 (Sw 62 w0 w' p c cap ((xs.drop m).map (fun x : Int => Value.int .i64 x)) cl) ∧ Aside0 (Kept W w' (fun k => k = c)))
    case atStart => exact ⟨0, none, 0, rfl, ⟨by omega⟩, ⟨Or.inr rfl⟩, HR0, HS, HK0⟩
    case round =>
      clear HS HR0 HK0
      obtain ⟨m, A, cc, rfl, HI, HM, HR, HS, HK⟩ := hrel
      by_cases c1 : (m : Int) < most
      · have c1b : decide ((m : Int) < most) = true := decide_eq_true c1
        by_cases c2 : m < xs.length
        · have HC2 := Aside0.mk c2
          have HC1 := Aside0.mk c1
          have HS1 : Aside0 (Sw 62 w0 wr p c cap ((fun x : Int => Value.int .i64 x) xs[m] :: (xs.drop (m + 1)).map (fun x : Int => Value.int .i64 x)) cl) := ⟨by have h := HS.out; rw [drop_one xs m c2] at h; exact h⟩
          have HLT : Aside0 (c < wr.heap.size) := ⟨HS.out.sp.clt⟩
          have HX : Aside0 (xs.take m ++ [xs[m]] = xs.take (m + 1)) := ⟨take_one xs m c2⟩
          generalize xs[m] = x at HS1 HX
          clear c1 c2 HS
          go_upto_region 4 with (go_at_call 13; go_must (refine (swI_take _ HS1.out).mono ?_; rintro e w2 ⟨rfl, h2, k2⟩; have HS2 := Aside0.mk h2; have HK2 : Aside0 (Kept W w2 (fun k => k = c)) := ⟨HK.out.then_ k2 (fun k hk => Or.inl hk)⟩; have HR2 : Aside0 ((Kd.int .i64).R 3 w2 W.heap.size (fun k => W.heap.size ≤ k) (.slice A m cc) (xs.take m)) := ⟨Kd.R_kept (Kd.R_mono (Kd.R_bound HR.out) (fun k hk => hk.2.1)) k2 (fun k hk e => by have := HG.out; omega)⟩; clear h2 k2 HS1 HK HR))
          go_wp2_with ((with_reducible refine gate_builtin (b := .append) (xs := #[.tmp 20, .tmp 22]) rfl ?_); at_builtin; go_must (refine Kd.R_append (Kd.int .i64) (w0 := w2) (W := w2) W.heap.size rfl (.tmp 20) (.tmp 22) 22 3 (.int .i64 0) 8 rfl Try.underlying22 info3 rfl (by decide) (by omega) (.slice A m cc) (xs.take m) x [(fun x : Int => Value.int .i64 x) x] (fun k => W.heap.size ≤ k) (fun _ => False) rfl rfl rfl (fun _ hk => hk.elim) (fun k hk => Nat.le_trans HK2.out.1 hk) HR2.out (Below.refl _ _) HK2.out.1 (by rw [List.length_take]; have := HL.out; have := HC2.out; omega) ?_; intro v7 w7 hr7 hb7 hg7 hat7; rw [HX.out] at hr7; have HR7 := Aside0.mk (Kd.R_mono (ok' := fun _ => True) hr7 (fun _ _ => trivial)); have hrow : ∀ k, (Value.slice A m cc).ownBlock = some k → W.heap.size ≤ k := Kd.R_base HR2.out; have HK7 : Aside0 (Kept W w7 (fun k => k = c)) := ⟨HK2.out.of_grown hg7 (fun k hk => Or.inr (hrow k hk))⟩; have HS7 : Aside0 (Sw 62 w0 w7 p c cap ((xs.drop (m + 1)).map (fun x : Int => Value.int .i64 x)) cl) := ⟨HS2.out.kept (kept_grown hg7) (fun e => by have := hrow p e.symm; have := HP.out; omega) (fun e => by have := hrow c e.symm; have := HG.out; omega) (HS2.out.bl.trans (below_le hb7 HW.out))⟩; clear hr7 hb7 hg7 hat7 hrow HK2 HS2 HR2))
          cases gk with
          | zero => have := HI.out; have := HC2.out; omega
          | succ kq =>
            obtain ⟨A7, cc7, rfl⟩ := Kd.R_slice HR7.out
            have hl7 : (xs.take (m + 1)).length = m + 1 := by rw [List.length_take]; have := HC2.out; omega
            rw [hl7] at HR7 ⊢
            go_roundg kq
            case measure => omega
            case rel => exact ⟨m + 1, A7, cc7, rfl, ⟨by have := HI.out; omega⟩, ⟨Or.inl (by have := HC1.out; push_cast; omega)⟩, HR7, HS7, HK7⟩
        · have HS1 : Aside0 (Sw 62 w0 wr p c cap [] cl) := ⟨by have h := HS.out; rw [List.drop_eq_nil_of_le (by omega)] at h; exact h⟩
          have HE : Aside0 (xs.take most.toNat = xs.take m ∧ xs.drop most.toNat = []) := ⟨⟨by rw [List.take_of_length_le (by omega), List.take_of_length_le (by omega)], List.drop_eq_nil_of_le (by omega)⟩⟩
          clear c1 c2 HS
          go_wp2_with (go_at_call 13; go_must (refine (takeI_none HS1.out.sp).mono ?_; rintro e w2 ⟨rfl, rfl⟩))
          go_ret
          exact ⟨_, rfl, by rw [HE.out.1]; exact HR.out, by rw [HE.out.2]; exact HS1.out, HK.out⟩
      · have c1b : decide ((m : Int) < most) = false := decide_eq_false c1
        have HE : Aside0 (most.toNat = m ∨ False) := ⟨Or.inl (by have := HM.out; omega)⟩
        clear c1
        go_wp2
        go_meet
        case rel => exact ⟨A, m, cc, rfl, ⟨by rw [HE.out.resolve_right id]; exact HR.out⟩, ⟨by rw [HE.out.resolve_right id]; exact HS.out⟩, HK⟩
  case rest =>
    clear HS HR0 HK0
    obtain ⟨A, n, cc, rfl, HR, HS, HK⟩ := hcut
    go_wp2
    go_ret
    exact ⟨_, rfl, HR.out, HS.out, HK.out⟩
set_option maxHeartbeats 4000000 in
set_option maxRecDepth 100000 in
theorem drainS_calls {w0 W : World} {p c cap : Nat} (xs : List ByteArray) (cl : Bool) (most : Int) (h : Sw 67 w0 W p c cap (xs.map (fun x : ByteArray => Value.string x)) cl) :
    Calls Try.prog 20 #[.pointer (some ⟨p, 0, none⟩), .int .i64 most] W fun e w' => ∃ vo, e = .returned vo ∧ Kd.string.R 9 w' W.heap.size (fun _ => True) vo (xs.take most.toNat) ∧ Sw 67 w0 w' p c cap ((xs.drop most.toNat).map (fun x : ByteArray => Value.string x)) cl ∧ Kept W w' (fun k => k = c) := by
  have HS := Aside0.mk h
  have HL : Aside0 (xs.length ≤ 1024) := ⟨by have h1 := h.sp.hl; have h2 := h.sp.hc; simp at h1; omega⟩
  have HP : Aside0 (p < W.heap.size) := ⟨h.sp.plt⟩
  have HG : Aside0 (c < W.heap.size) := ⟨h.sp.clt⟩
  have HW : Aside0 (w0.heap.size ≤ W.heap.size) := ⟨h.bl.size⟩
  have HK0 : Aside0 (Kept W W (fun k => k = c)) := ⟨Kept.refl _ _⟩
  have HR0 : Aside0 (Kd.string.R 9 W W.heap.size (fun _ => True) (.slice none 0 0) (xs.take 0)) := ⟨Kd.R_nil _ _ _ _ _⟩
  clear h
  go_enter Try.func20, Try.ntmps20
  go_upto_block 0 with (fail)
  go_cut [5] (fun v5 wc => ∃ (A : Option Addr) (n cc : Nat), v5 = .slice A n cc ∧ Aside0 (Kd.string.R 9 wc W.heap.size (fun _ => True) (.slice A n cc) (xs.take most.toNat)) ∧ Aside0 (Sw 67 w0 wc p c cap ((xs.drop most.toNat).map (fun x : ByteArray => Value.string x)) cl) ∧ Aside0 (Kept W wc (fun k => k = c)))
  case first =>
    go_wp2
    go_loopg [5] xs.length (fun kq v5 w' => ∃ (m : Nat) (A : Option Addr) (cc : Nat), v5 = .slice A m cc ∧ Aside0 (m + kq = xs.length) ∧ Aside0 ((m : Int) ≤ most ∨ m = 0) ∧ Aside0 (Kd.string.R 9 w' W.heap.size (fun _ => True) (.slice A m cc) (xs.take m)) ∧ Aside0 (Sw 67 w0 w' p c cap ((xs.drop m).map (fun x : ByteArray => Value.string x)) cl) ∧ Aside0 (Kept W w' (fun k => k = c)))
    case atStart => exact ⟨0, none, 0, rfl, ⟨by omega⟩, ⟨Or.inr rfl⟩, HR0, HS, HK0⟩
    case round =>
      clear HS HR0 HK0
      obtain ⟨m, A, cc, rfl, HI, HM, HR, HS, HK⟩ := hrel
      by_cases c1 : (m : Int) < most
      · have c1b : decide ((m : Int) < most) = true := decide_eq_true c1
        by_cases c2 : m < xs.length
        · have HC2 := Aside0.mk c2
          have HC1 := Aside0.mk c1
          have HS1 : Aside0 (Sw 67 w0 wr p c cap ((fun x : ByteArray => Value.string x) xs[m] :: (xs.drop (m + 1)).map (fun x : ByteArray => Value.string x)) cl) := ⟨by have h := HS.out; rw [drop_one xs m c2] at h; exact h⟩
          have HLT : Aside0 (c < wr.heap.size) := ⟨HS.out.sp.clt⟩
          have HX : Aside0 (xs.take m ++ [xs[m]] = xs.take (m + 1)) := ⟨take_one xs m c2⟩
          generalize xs[m] = x at HS1 HX
          clear c1 c2 HS
          go_upto_region 4 with (go_at_call 33; go_must (refine (swS_take _ HS1.out).mono ?_; rintro e w2 ⟨rfl, h2, k2⟩; have HS2 := Aside0.mk h2; have HK2 : Aside0 (Kept W w2 (fun k => k = c)) := ⟨HK.out.then_ k2 (fun k hk => Or.inl hk)⟩; have HR2 : Aside0 (Kd.string.R 9 w2 W.heap.size (fun k => W.heap.size ≤ k) (.slice A m cc) (xs.take m)) := ⟨Kd.R_kept (Kd.R_mono (Kd.R_bound HR.out) (fun k hk => hk.2.1)) k2 (fun k hk e => by have := HG.out; omega)⟩; clear h2 k2 HS1 HK HR))
          go_wp2_with ((with_reducible refine gate_builtin (b := .append) (xs := #[.tmp 20, .tmp 22]) rfl ?_); at_builtin; go_must (refine Kd.R_append Kd.string (w0 := w2) (W := w2) W.heap.size rfl (.tmp 20) (.tmp 22) 33 9 (.string ⟨#[]⟩) 16 rfl Try.underlying33 info9 rfl (by decide) (by omega) (.slice A m cc) (xs.take m) x [(fun x : ByteArray => Value.string x) x] (fun k => W.heap.size ≤ k) (fun _ => False) rfl rfl rfl (fun _ hk => hk.elim) (fun k hk => Nat.le_trans HK2.out.1 hk) HR2.out (Below.refl _ _) HK2.out.1 (by rw [List.length_take]; have := HL.out; have := HC2.out; omega) ?_; intro v7 w7 hr7 hb7 hg7 hat7; rw [HX.out] at hr7; have HR7 := Aside0.mk (Kd.R_mono (ok' := fun _ => True) hr7 (fun _ _ => trivial)); have hrow : ∀ k, (Value.slice A m cc).ownBlock = some k → W.heap.size ≤ k := Kd.R_base HR2.out; have HK7 : Aside0 (Kept W w7 (fun k => k = c)) := ⟨HK2.out.of_grown hg7 (fun k hk => Or.inr (hrow k hk))⟩; have HS7 : Aside0 (Sw 67 w0 w7 p c cap ((xs.drop (m + 1)).map (fun x : ByteArray => Value.string x)) cl) := ⟨HS2.out.kept (kept_grown hg7) (fun e => by have := hrow p e.symm; have := HP.out; omega) (fun e => by have := hrow c e.symm; have := HG.out; omega) (HS2.out.bl.trans (below_le hb7 HW.out))⟩; clear hr7 hb7 hg7 hat7 hrow HK2 HS2 HR2))
          cases gk with
          | zero => have := HI.out; have := HC2.out; omega
          | succ kq =>
            obtain ⟨A7, cc7, rfl⟩ := Kd.R_slice HR7.out
            have hl7 : (xs.take (m + 1)).length = m + 1 := by rw [List.length_take]; have := HC2.out; omega
            rw [hl7] at HR7 ⊢
            go_roundg kq
            case measure => omega
            case rel => exact ⟨m + 1, A7, cc7, rfl, ⟨by have := HI.out; omega⟩, ⟨Or.inl (by have := HC1.out; push_cast; omega)⟩, HR7, HS7, HK7⟩
        · have HS1 : Aside0 (Sw 67 w0 wr p c cap [] cl) := ⟨by have h := HS.out; rw [List.drop_eq_nil_of_le (by omega)] at h; exact h⟩
          have HE : Aside0 (xs.take most.toNat = xs.take m ∧ xs.drop most.toNat = []) := ⟨⟨by rw [List.take_of_length_le (by omega), List.take_of_length_le (by omega)], List.drop_eq_nil_of_le (by omega)⟩⟩
          clear c1 c2 HS
          go_wp2_with (go_at_call 33; go_must (refine (takeS_none HS1.out.sp).mono ?_; rintro e w2 ⟨rfl, rfl⟩))
          go_ret
          exact ⟨_, rfl, by rw [HE.out.1]; exact HR.out, by rw [HE.out.2]; exact HS1.out, HK.out⟩
      · have c1b : decide ((m : Int) < most) = false := decide_eq_false c1
        have HE : Aside0 (most.toNat = m ∨ False) := ⟨Or.inl (by have := HM.out; omega)⟩
        clear c1
        go_wp2
        go_meet
        case rel => exact ⟨A, m, cc, rfl, ⟨by rw [HE.out.resolve_right id]; exact HR.out⟩, ⟨by rw [HE.out.resolve_right id]; exact HS.out⟩, HK⟩
  case rest =>
    clear HS HR0 HK0
    obtain ⟨A, n, cc, rfl, HR, HS, HK⟩ := hcut
    go_wp2
    go_ret
    exact ⟨_, rfl, HR.out, HS.out, HK.out⟩
end Go.Proofs.Ytkohkcnajddcoaa.QN
