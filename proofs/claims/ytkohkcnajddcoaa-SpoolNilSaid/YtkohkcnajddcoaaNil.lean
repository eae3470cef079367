/- The law SpoolNil: a spool that is not there, or that nobody made: the walk; it returns true for every input. -/
import Derived.Test.YtkohkcnajddcoaaMove
namespace Go.Proofs.Ytkohkcnajddcoaa.QN
open Go.RowKit Go.Conc Go.Proofs.YtkohkcnajddcoaaW.PrintWords Go.Proofs.YtkohkcnajddcoaaW.PrintLast Go.Proofs.YtkohkcnajddcoaaW.PrintMore
set_option linter.unusedVariables false
set_option linter.unusedSimpArgs false

/-- No spool, or one that New did not give. -/
def Un (W : World) (u : Value) : Prop := u = .pointer none ∨ ∃ z, u = .pointer (some ⟨z, 0, none⟩) ∧ W.heap[z]? = some (.cells #[.chan none, .bool false] 62 (0, 0))
section
variable {W w0 : World} {u : Value}
theorem made_un (h : Un W u) : Calls Try.prog 30 #[u] W fun e w' => e = .returned (.bool false) ∧ W = w' := by
  rcases h with rfl | ⟨z, rfl, hz⟩
  · go_enter Try.func30, Try.ntmps30
    go_wp2
    go_ret
    exact ⟨rfl, rfl⟩
  · have hc0 : W.cell? ⟨z, 0, none⟩ = some (.chan none) := (blk_cell hz 0).trans rfl
    have hn := run_neq_chan_nil (P := Try.prog) W 60 none Try.underlying60
    go_enter Try.func30, Try.ntmps30
    go_wp2
    go_ret
    exact ⟨rfl, rfl⟩
theorem open_un (h : Un W u) : Calls Try.prog 11 #[u] W fun e w' => e = .returned (.bool false) ∧ W = w' := by
  go_enter Try.func11, Try.ntmps11
  go_wp2_with (go_at_call 30; go_must (refine (made_un h).mono ?_; rintro e w2 ⟨rfl, rfl⟩))
  go_ret
  exact ⟨rfl, rfl⟩
theorem len_un (h : Un W u) : Calls Try.prog 12 #[u] W fun e w' => e = .returned (.int .i64 0) ∧ W = w' := by
  go_enter Try.func12, Try.ntmps12
  go_wp2_with (go_at_call 30; go_must (refine (made_un h).mono ?_; rintro e w2 ⟨rfl, rfl⟩))
  go_ret
  exact ⟨rfl, rfl⟩
theorem room_un (h : Un W u) : Calls Try.prog 29 #[u] W fun e w' => e = .returned (.int .i64 0) ∧ W = w' := by
  go_enter Try.func29, Try.ntmps29
  go_wp2_with (go_at_call 30; go_must (refine (made_un h).mono ?_; rintro e w2 ⟨rfl, rfl⟩))
  go_ret
  exact ⟨rfl, rfl⟩
theorem put_un (v : Value) (h : Un W u) : Calls Try.prog 9 #[u, v] W fun e w' => e = .returned (.bool false) ∧ W = w' := by
  go_enter Try.func9, Try.ntmps9
  go_wp2_with (go_at_call 11; go_must (refine (open_un h).mono ?_; rintro e w2 ⟨rfl, rfl⟩))
  go_ret
  exact ⟨rfl, rfl⟩
theorem close_un (h : Un W u) : Calls Try.prog 10 #[u] W fun e w' => e = .returned (.bool false) ∧ W = w' := by
  go_enter Try.func10, Try.ntmps10
  go_wp2_with (go_at_call 11; go_must (refine (open_un h).mono ?_; rintro e w2 ⟨rfl, rfl⟩))
  go_ret
  exact ⟨rfl, rfl⟩
theorem take_un (h : Un W u) : Calls Try.prog 13 #[u] W fun e w' => e = .returned (.tuple #[.int .i64 0, .bool false]) ∧ W = w' := by
  go_enter Try.func13, Try.ntmps13
  go_wp2_with (go_at_call 30; go_must (refine (made_un h).mono ?_; rintro e w2 ⟨rfl, rfl⟩))
  go_ret2
  exact ⟨rfl, rfl⟩
theorem drain_un (most : Int) (h : Un W u) : Calls Try.prog 25 #[u, .int .i64 most] W fun e w' => e = .returned (.slice none 0 0) ∧ W = w' := by
  have HU := Aside0.mk h
  go_enter Try.func25, Try.ntmps25
  go_upto_block 0 with (fail)
  go_cut [5] (fun v5 wc => v5 = .slice none 0 0 ∧ W = wc)
  case first =>
    go_wp2
    go_loopg [5] 0 (fun kq v5 w' => v5 = .slice none 0 0 ∧ W = w')
    case atStart => exact ⟨rfl, rfl⟩
    case round =>
      obtain ⟨rfl, rfl⟩ := hrel
      by_cases c1 : 0 < most
      · have c1b : decide (0 < most) = true := decide_eq_true c1
        clear c1
        go_wp2_with (go_at_call 13; go_must (refine (take_un h).mono ?_; rintro e w2 ⟨rfl, rfl⟩))
        go_ret
        exact ⟨rfl, rfl⟩
      · have c1b : decide (0 < most) = false := decide_eq_false c1
        clear c1
        go_wp2
        go_meet
        case rel => exact ⟨rfl, rfl⟩
  case rest =>
    obtain ⟨rfl, rfl⟩ := hcut
    go_wp2
    go_ret
    exact ⟨rfl, rfl⟩
theorem move_un (v : Value) (most : Int) (h : Un W u) : Calls Try.prog 27 #[u, v, .int .i64 most] W fun e w' => e = .returned (.int .i64 0) ∧ W = w' := by
  have HU := Aside0.mk h
  go_enter Try.func27, Try.ntmps27
  go_upto_block 0 with (go_at_call 30; go_must (refine (made_un h).mono ?_; rintro e w2 ⟨rfl, rfl⟩))
  try (with_reducible refine wp_scope_body noGoto_bodyPost ?_)
  go_wp2_with (go_at_call 30; go_must (refine (made_un h).mono ?_; rintro e w2 ⟨rfl, rfl⟩))
  go_ret
  exact ⟨rfl, rfl⟩
theorem move_same {p c cap : Nat} {xs : List Value} {cl : Bool} (most : Int) (h : Sp 62 W p c cap xs cl) : Calls Try.prog 27 #[.pointer (some ⟨p, 0, none⟩), .pointer (some ⟨p, 0, none⟩), .int .i64 most] W fun e w' => e = .returned (.int .i64 0) ∧ W = w' := by
  have hpe := ptr_eq W p
  go_enter Try.func27, Try.ntmps27
  go_upto_block 0 with (go_at_call 30; go_must (refine (madeI_calls h).mono ?_; rintro e w2 ⟨rfl, rfl⟩))
  try (with_reducible refine wp_scope_body noGoto_bodyPost ?_)
  go_wp2_with (go_at_call 30; go_must (refine (madeI_calls h).mono ?_; rintro e w2 ⟨rfl, rfl⟩))
  go_ret
  exact ⟨rfl, rfl⟩
theorem move_to_un {p c cap : Nat} {xs : List Value} {cl : Bool} (most : Int) (h : Sp 62 W p c cap xs cl) (hu : Un W u) : Calls Try.prog 27 #[.pointer (some ⟨p, 0, none⟩), u, .int .i64 most] W fun e w' => e = .returned (.int .i64 0) ∧ W = w' := by
  have hpn : (binOp .eql 23 (.pointer (some ⟨p, 0, none⟩)) u).run Try.prog W = .ok (.bool false) W := by
    rcases hu with rfl | ⟨z, rfl, hz⟩
    · exact run_eql_pointer_nil W 23 _ Try.underlying23
    · obtain ⟨j, hj, hjz⟩ := size62
      refine run_eql_ptr_other W Try.underlying23 hj hjz (fun e => ?_) h.gb hz
      have e' : p = z := by injection e
      subst e'
      have := h.gb
      rw [hz] at this
      simp at this
  go_enter Try.func27, Try.ntmps27
  go_upto_block 0 with (go_at_call 30; go_must (refine (madeI_calls h).mono ?_; rintro e w2 ⟨rfl, rfl⟩))
  try (with_reducible refine wp_scope_body noGoto_bodyPost ?_)
  try (with_reducible apply wp_label)
  try go_upto_block 0 with (go_at_call 30; go_must (refine (madeI_calls h).mono ?_; rintro e w2 ⟨rfl, rfl⟩))
  try (with_reducible apply wp_label)
  try go_upto_block 0 with (fail)
  clear hpn
  go_cut [7] (fun v7 wc => v7 = .int .i64 0 ∧ W = wc)
  case first =>
    go_wp2
    go_loopg [7] 0 (fun kq v7 w' => v7 = .int .i64 0 ∧ W = w')
    case atStart => exact ⟨rfl, rfl⟩
    case round =>
      obtain ⟨rfl, rfl⟩ := hrel
      by_cases c1 : 0 < most
      · have c1b : decide (0 < most) = true := decide_eq_true c1
        clear c1
        go_wp2_with (go_at_call 11; go_must (refine (open_un hu).mono ?_; rintro e w2 ⟨rfl, rfl⟩))
        go_meet
        case rel => exact ⟨rfl, rfl⟩
      · have c1b : decide (0 < most) = false := decide_eq_false c1
        clear c1
        go_wp2
        go_meet
        case rel => exact ⟨rfl, rfl⟩
  case rest =>
    obtain ⟨rfl, rfl⟩ := hcut
    go_wp2
    go_ret
    exact ⟨rfl, rfl⟩
end
set_option maxHeartbeats 4000000 in
set_option maxRecDepth 100000 in
theorem SpoolNil_calls (x most : Int) (w : World) :
    Calls Try.prog 7 #[.int .i64 x, .int .i64 most] w fun e w' => e = .returned (.bool true) ∧ Below w.heap.size w w' := by
  go_enter Try.func7, Try.ntmps7
  go_upto_region 4 with (go_at_call 8; go_must (refine (swI_new (w0 := w) 3 (by decide) (Below.refl _ _)).mono ?_; rintro e w1 ⟨p, c, rfl, h1, -, -, -⟩; have HS := Aside0.mk h1; clear h1))
  go_upto_region 5 with (go_at_call 9; go_must (refine (swI_put (.int .i64 x) HS.out (by simp)).mono ?_; rintro e w2 ⟨rfl, h2, -⟩; have HS2 := Aside0.mk h2; clear h2 HS))
  go_upto_block 0 with (fail)
  have HZ : Aside0 (((w2.alloc (.cells #[.chan none, .bool false] 62)).alloc (.cells #[.pointer none, .pointer (some ⟨w2.heap.size, 0, none⟩)] 23)).heap[w2.heap.size]? = some (.cells #[.chan none, .bool false] 62 (0, 0))) := ⟨blk_alloc (blk_new w2 _) _⟩
  have HL : Aside0 (((w2.alloc (.cells #[.chan none, .bool false] 62)).alloc (.cells #[.pointer none, .pointer (some ⟨w2.heap.size, 0, none⟩)] 23)).heap[w2.heap.size + 1]? = some (.cells #[.pointer none, .pointer (some ⟨w2.heap.size, 0, none⟩)] 23 (0, 0))) := ⟨by
    have := blk_new (w2.alloc (.cells #[.chan none, .bool false] 62)) (.cells #[.pointer none, .pointer (some ⟨w2.heap.size, 0, none⟩)] 23)
    simpa using this⟩
  have HS3 : Aside0 (Sw 62 w ((w2.alloc (.cells #[.chan none, .bool false] 62)).alloc (.cells #[.pointer none, .pointer (some ⟨w2.heap.size, 0, none⟩)] 23)) p c 3 [.int .i64 x] false) := ⟨HS2.out.below (below_alloc (below_alloc (Below.refl _ _) _) _)⟩
  clear HS2
  generalize (w2.alloc (.cells #[.chan none, .bool false] 62)).alloc (.cells #[.pointer none, .pointer (some ⟨w2.heap.size, 0, none⟩)] 23) = w3 at HZ HL HS3 ⊢
  generalize w2.heap.size + 1 = g at HL ⊢
  generalize w2.heap.size = z at HZ HL ⊢
  have HU0 : Aside0 (Un w3 (.pointer none)) := ⟨Or.inl rfl⟩
  have HU1 : Aside0 (Un w3 (.pointer (some ⟨z, 0, none⟩))) := ⟨Or.inr ⟨z, rfl, HZ.out⟩⟩
  have hl0 : w3.cell? ⟨g, 0, none⟩ = some (.pointer none) := (blk_cell HL.out 0).trans rfl
  have hl1 : w3.cell? ⟨g, 1, none⟩ = some (.pointer (some ⟨z, 0, none⟩)) := (blk_cell HL.out 1).trans rfl
  go_cut [8] (fun v8 wc => w3 = wc)
  case first =>
    go_wp2
    go_loopg [8] 2 (fun kq v8 w' => w3 = w' ∧ ((v8 = .int .i64 0 ∧ kq = 2) ∨ (v8 = .int .i64 1 ∧ kq = 1) ∨ (v8 = .int .i64 2 ∧ kq = 0)))
    case atStart => exact ⟨rfl, Or.inl ⟨rfl, rfl⟩⟩
    case round =>
      obtain ⟨rfl, ⟨rfl, rfl⟩ | ⟨rfl, rfl⟩ | ⟨rfl, rfl⟩⟩ := hrel
      · go_wp2_with (first | (go_at_call 13; (with_reducible refine Calls.mono (take_un HU0.out) ?_); rintro e w4 ⟨rfl, rfl⟩) | (go_at_call 9; (with_reducible refine Calls.mono (put_un _ HU0.out) ?_); rintro e w4 ⟨rfl, rfl⟩) | (go_at_call 25; (with_reducible refine Calls.mono (drain_un most HU0.out) ?_); rintro e w4 ⟨rfl, rfl⟩) | (go_at_call 10; (with_reducible refine Calls.mono (close_un HU0.out) ?_); rintro e w4 ⟨rfl, rfl⟩) | (go_at_call 11; (with_reducible refine Calls.mono (open_un HU0.out) ?_); rintro e w4 ⟨rfl, rfl⟩) | (go_at_call 12; (with_reducible refine Calls.mono (len_un HU0.out) ?_); rintro e w4 ⟨rfl, rfl⟩) | (go_at_call 29; (with_reducible refine Calls.mono (room_un HU0.out) ?_); rintro e w4 ⟨rfl, rfl⟩) | (go_at_call 27; (with_reducible refine Calls.mono (move_un _ most HU0.out) ?_); rintro e w4 ⟨rfl, rfl⟩) | (go_at_call 27; (with_reducible refine Calls.mono (move_to_un most HS3.out.sp HU0.out) ?_); rintro e w4 ⟨rfl, rfl⟩))
        go_roundg 1
        case measure => omega
        case rel => exact ⟨rfl, Or.inr (Or.inl ⟨rfl, rfl⟩)⟩
      · go_wp2_with (first | (go_at_call 13; (with_reducible refine Calls.mono (take_un HU1.out) ?_); rintro e w4 ⟨rfl, rfl⟩) | (go_at_call 9; (with_reducible refine Calls.mono (put_un _ HU1.out) ?_); rintro e w4 ⟨rfl, rfl⟩) | (go_at_call 25; (with_reducible refine Calls.mono (drain_un most HU1.out) ?_); rintro e w4 ⟨rfl, rfl⟩) | (go_at_call 10; (with_reducible refine Calls.mono (close_un HU1.out) ?_); rintro e w4 ⟨rfl, rfl⟩) | (go_at_call 11; (with_reducible refine Calls.mono (open_un HU1.out) ?_); rintro e w4 ⟨rfl, rfl⟩) | (go_at_call 12; (with_reducible refine Calls.mono (len_un HU1.out) ?_); rintro e w4 ⟨rfl, rfl⟩) | (go_at_call 29; (with_reducible refine Calls.mono (room_un HU1.out) ?_); rintro e w4 ⟨rfl, rfl⟩) | (go_at_call 27; (with_reducible refine Calls.mono (move_un _ most HU1.out) ?_); rintro e w4 ⟨rfl, rfl⟩) | (go_at_call 27; (with_reducible refine Calls.mono (move_to_un most HS3.out.sp HU1.out) ?_); rintro e w4 ⟨rfl, rfl⟩))
        go_roundg 0
        case measure => omega
        case rel => exact ⟨rfl, Or.inr (Or.inr ⟨rfl, rfl⟩)⟩
      · go_wp2
        go_meet
        case rel => exact rfl
  case rest =>
    obtain rfl := hcut
    go_wp2_with (first | (go_at_call 12; (with_reducible refine Calls.mono (lenI_calls HS3.out.sp) ?_); rintro e w4 ⟨rfl, rfl⟩) | (go_at_call 27; (with_reducible refine Calls.mono (move_same most HS3.out.sp) ?_); rintro e w4 ⟨rfl, rfl⟩) | (go_at_call 14; (with_reducible refine Calls.mono (known_calls _) ?_); rintro e w5 ⟨rfl, h5⟩; have HB := Aside0.mk (below_then HS3.out.bl HS3.out.bl.size h5); clear h5))
    go_ret
    exact ⟨rfl, HB.out⟩
end Go.Proofs.Ytkohkcnajddcoaa.QN
