/- StatParts' walk: it returns true for every input. -/
import Derived.Test.YtcmknnhhbcgoiaaPureParts
import Derived.Test.YtcmknnhhbcgoiaaKnown
import Derived.Test.YtcmknnhhbcgoiaaQN4
import Derived.Test.YtcmknnhhbcgoiaaQN5
import Derived.Outline
namespace Go.Proofs.Ytcmknnhhbcgoiaa.QN
open Go.RowKit Go.Proofs.YtcmknnhhbcgoiaaW.PrintWords Go.Proofs.YtcmknnhhbcgoiaaW.PrintLast Go.Proofs.YtcmknnhhbcgoiaaW.PrintMore
set_option linter.unusedVariables false
set_option linter.unusedSimpArgs false

def tab_f8.T13 : Bool × List (List Nat × List Nat) := (true, [([], []), ([], []), ([0, 1], [0, 1]), ([], []), ([], []), ([3, 4], [3, 4]), ([2, 5], [2, 5]), ([6], [6]), ([7], [7]), ([7], [7]), ([8, 6, 0, 1, 2, 3, 4, 5, 6, 7, 8], [8]), ([9, 10, 0, 1, 2, 3, 4, 5, 6, 7, 8, 9, 10], [9])])
def tab_f8.B13 : List Nat := [0, 0, 3, 0, 0, 24, 63, 127, 255, 255, 511, 2047]
theorem tab_f8.tab13 : rtab .any (opsOf Try.f8 13) = tab_f8.T13 := by kernel_rfl
theorem tab_f8.bits13 : waitsOk tab_f8.T13.2 tab_f8.B13 = true := by kernel_rfl
theorem info67 : (Try.prog.info? 67).map (fun i => (i.zero, i.size, i.bytes)) = some (some (.agg #[.int .i64 0, .int .i64 0, .slice none 0 0, .slice none 0 0, .slice none 0 0]), 5, 88) := by kernel_rfl
theorem info55 : (Try.prog.info? 55).map (fun i => (i.zero, i.size, i.bytes)) = some (some (.agg #[.int .i64 0, .int .i64 0, .int .i64 0, .int .i64 0, .string ⟨#[]⟩, .int .i64 0, .slice none 0 0, .int .i64 0]), 8, 88) := by kernel_rfl
theorem parts_guard1 (A0 : Option Addr) (c0 : Nat) (l : List S67) (A1 : Option Addr) (c1 : Nat) (v : List SV) (n : Int) (w : World) (h1 : 2000 < l.length) :
    Calls Try.prog 8 #[.slice A0 l.length c0, .slice A1 v.length c1, .int .i64 n] w fun e w' => e = .returned (.bool true) ∧ Below w.heap.size w w' := by
  have a1 : decide (2000 < (l.length : Int)) = true := decide_eq_true (by omega)
  have a2 : (2000 < (l.length : Int)) = True := eq_true (by omega)
  have a3 : (2000 < l.length) = True := eq_true (by omega)
  clear h1
  go_enter Try.func8, Try.ntmps8
  go_wp2_with (go_at_call 9; go_must (refine (changelinglaw25_known.calls true w rfl).mono ?_; rintro e w1 ⟨rfl, hb1⟩; have HB1 := Aside0.mk hb1; clear hb1))
  go_ret
  exact ⟨rfl, HB1.out⟩
theorem parts_guard2 (A0 : Option Addr) (c0 : Nat) (l : List S67) (A1 : Option Addr) (c1 : Nat) (v : List SV) (n : Int) (w : World) (h1 : l.length ≤ 2000) (h2 : n < 0) :
    Calls Try.prog 8 #[.slice A0 l.length c0, .slice A1 v.length c1, .int .i64 n] w fun e w' => e = .returned (.bool true) ∧ Below w.heap.size w w' := by
  have a1 : decide (2000 < (l.length : Int)) = false := decide_eq_false (by omega)
  have a2 : (2000 < (l.length : Int)) = False := eq_false (by omega)
  have a3 : (2000 < l.length) = False := eq_false (by omega)
  have b1 : decide (n < 0) = true := decide_eq_true (by omega)
  have b2 : (n < 0) = True := eq_true (by omega)
  clear h1 h2
  go_enter Try.func8, Try.ntmps8
  go_wp2_with (go_at_call 9; go_must (refine (changelinglaw25_known.calls true w rfl).mono ?_; rintro e w1 ⟨rfl, hb1⟩; have HB1 := Aside0.mk hb1; clear hb1))
  go_ret
  exact ⟨rfl, HB1.out⟩
theorem parts_guard3 (A0 : Option Addr) (c0 : Nat) (l : List S67) (A1 : Option Addr) (c1 : Nat) (v : List SV) (n : Int) (w : World) (h1 : l.length ≤ 2000) (h2 : 0 ≤ n) (h3 : (l.length : Int) < n) :
    Calls Try.prog 8 #[.slice A0 l.length c0, .slice A1 v.length c1, .int .i64 n] w fun e w' => e = .returned (.bool true) ∧ Below w.heap.size w w' := by
  have a1 : decide (2000 < (l.length : Int)) = false := decide_eq_false (by omega)
  have a2 : (2000 < (l.length : Int)) = False := eq_false (by omega)
  have a3 : (2000 < l.length) = False := eq_false (by omega)
  have b1 : decide (n < 0) = false := decide_eq_false (by omega)
  have b2 : (n < 0) = False := eq_false (by omega)
  have d1 : decide ((l.length : Int) < n) = true := decide_eq_true (by omega)
  have d2 : ((l.length : Int) < n) = True := eq_true (by omega)
  clear h1 h2 h3
  go_enter Try.func8, Try.ntmps8
  go_wp2_with (go_at_call 9; go_must (refine (changelinglaw25_known.calls true w rfl).mono ?_; rintro e w1 ⟨rfl, hb1⟩; have HB1 := Aside0.mk hb1; clear hb1))
  go_ret
  exact ⟨rfl, HB1.out⟩
theorem parts_guard4 (A0 : Option Addr) (c0 : Nat) (l : List S67) (A1 : Option Addr) (c1 : Nat) (v : List SV) (n : Int) (w : World) (h1 : l.length ≤ 2000) (h2 : 0 ≤ n) (h3 : n ≤ (l.length : Int)) (h4 : l.length ≠ v.length) :
    Calls Try.prog 8 #[.slice A0 l.length c0, .slice A1 v.length c1, .int .i64 n] w fun e w' => e = .returned (.bool true) ∧ Below w.heap.size w w' := by
  have a1 : decide (2000 < (l.length : Int)) = false := decide_eq_false (by omega)
  have a2 : (2000 < (l.length : Int)) = False := eq_false (by omega)
  have a3 : (2000 < l.length) = False := eq_false (by omega)
  have b1 : decide (n < 0) = false := decide_eq_false (by omega)
  have b2 : (n < 0) = False := eq_false (by omega)
  have d1 : decide ((l.length : Int) < n) = false := decide_eq_false (by omega)
  have d2 : ((l.length : Int) < n) = False := eq_false (by omega)
  have e1 : ((l.length : Int) != (v.length : Int)) = true := bne_iff_ne.mpr (by omega)
  have e2 : ((l.length : Int) == (v.length : Int)) = false := beq_eq_false_iff_ne.mpr (by omega)
  have e3 : (l.length == v.length) = false := beq_eq_false_iff_ne.mpr (by omega)
  have e4 : (l.length != v.length) = true := bne_iff_ne.mpr (by omega)
  have e5 : (l.length = v.length) = False := eq_false (by omega)
  clear h1 h2 h3 h4
  go_enter Try.func8, Try.ntmps8
  go_wp2_with (go_at_call 9; go_must (refine (changelinglaw25_known.calls true w rfl).mono ?_; rintro e w1 ⟨rfl, hb1⟩; have HB1 := Aside0.mk hb1; clear hb1))
  go_ret
  exact ⟨rfl, HB1.out⟩
set_option maxHeartbeats 8000000 in
set_option maxRecDepth 100000 in
theorem StatParts_calls (A0 : Option Addr) (c0 : Nat) (l : List S67) (A1 : Option Addr) (c1 : Nat) (v : List SV) (n : Int) (w : World) (hC : Kd.C k67 w A0 l.length l) (hc : l.length ≤ c0) (hV : Kd.C kV w A1 v.length v) (hc1 : v.length ≤ c1) :
    Calls Try.prog 8 #[.slice A0 l.length c0, .slice A1 v.length c1, .int .i64 n] w fun e w' => e = .returned (.bool true) ∧ Below w.heap.size w w' := by
  by_cases h1 : 2000 < l.length
  · exact parts_guard1 A0 c0 l A1 c1 v n w h1
  by_cases h2 : n < 0
  · exact parts_guard2 A0 c0 l A1 c1 v n w (by omega) h2
  by_cases h3 : (l.length : Int) < n
  · exact parts_guard3 A0 c0 l A1 c1 v n w (by omega) (by omega) h3
  by_cases h4 : l.length ≠ v.length
  · exact parts_guard4 A0 c0 l A1 c1 v n w (by omega) (by omega) (by omega) h4
  have q4 : l.length = v.length := by omega
  obtain ⟨N, rfl⟩ := Int.eq_ofNat_of_zero_le (show 0 ≤ n by omega)
  have HN : Aside0 (N ≤ l.length ∧ l.length ≤ 2000 ∧ l.length = v.length) := ⟨by omega⟩
  have a1 : decide (2000 < (l.length : Int)) = false := decide_eq_false (by omega)
  have a2 : (2000 < (l.length : Int)) = False := eq_false (by omega)
  have a3 : (2000 < l.length) = False := eq_false (by omega)
  have b1 : decide ((N : Int) < 0) = false := decide_eq_false (by omega)
  have b2 : ((N : Int) < 0) = False := eq_false (by omega)
  have d1 : decide ((l.length : Int) < (N : Int)) = false := decide_eq_false (by omega)
  have d2 : ((l.length : Int) < (N : Int)) = False := eq_false (by omega)
  have d3 : (l.length < N) = False := eq_false (by omega)
  have e1 : ((l.length : Int) != (v.length : Int)) = false := by rw [q4]; exact bne_self_eq_false' ..
  have e2 : ((l.length : Int) == (v.length : Int)) = true := by rw [q4]; exact beq_self_eq_true ..
  have e3 : (l.length == v.length) = true := by rw [q4]; exact beq_self_eq_true ..
  have e4 : (l.length != v.length) = false := by rw [q4]; exact bne_self_eq_false' ..
  have e5 : (l.length = v.length) = True := eq_true q4
  have HC := Aside0.mk (And.intro hC hc)
  have HV := Aside0.mk (And.intro hV hc1)
  have HB := Aside0.mk (Below.refl w.heap.size w)
  clear hC hc hV hc1 h1 h2 h3 h4 q4
  cases hR : CountF l v with
  | none =>
    have hG : CountG l v = ([], 1) := by unfold CountG; rw [hR]
    clear hR
    go_enter Try.func8, Try.ntmps8
    go_wp2_with (first | (go_at_call 10; go_must (refine (stat_Count.calls A0 c0 l A1 c1 v w HC.out.1 HC.out.2 HV.out.1 HV.out.2).mono ?_; rw [hG]; rintro e w1 ⟨vc, rfl, hR3, hb⟩; obtain ⟨Ac, cc, rfl, hcc, hCc⟩ := Kd.R_reads hR3; have HB1 := Aside0.mk hb; clear hb HB hR3 hcc hCc)) | (go_at_call 9; go_must (refine (changelinglaw25_known.calls true w1 rfl).mono ?_; rintro e w3 ⟨rfl, hb⟩; have HB3 := Aside0.mk (below_then HB1.out HB1.out.size hb); clear hb HB1)))
    go_ret
    exact ⟨rfl, HB3.out⟩
  | some t =>
    have hG : CountG l v = (t, 0) := by unfold CountG; rw [hR]
    obtain ⟨ta, tb, hca, hcb, hm, hrows, hsame⟩ := Pure.parts_yes l v HN.out.2.1 N HN.out.1 t hR
    generalize t.map Pure.toRow = rs at hrows hsame
    have HP := Aside0.mk (And.intro hca (And.intro hcb (And.intro hm (And.intro hrows hsame))))
    clear hR hca hcb hm hrows hsame
    go_enter Try.func8, Try.ntmps8
    go_upto_block 0 with (go_at_call 10; go_must (refine (stat_Count.calls A0 c0 l A1 c1 v w HC.out.1 HC.out.2 HV.out.1 HV.out.2).mono ?_; rw [hG]; rintro e w1 ⟨vc, rfl, hR3, hb⟩; obtain ⟨Ac, cc, rfl, hcc, hCc⟩ := Kd.R_reads hR3; have HB1 := Aside0.mk hb; have HT1 := Aside0.mk hR3; clear hb HB hR3 hcc hCc))
    go_cut [9] (fun v9 wc => Aside0 (Kd.R kV 55 wc w.heap.size (fun _ => True) v9 ((v.drop N).map (Pure.subV N))) ∧ Aside0 (Kd.R k42 42 wc w.heap.size (fun _ => True) (.slice Ac t.length cc) t) ∧ Aside0 (Below w.heap.size w wc))
    case first =>
      go_wp2
      go_loopg [9, 10] (v.length - N) (fun kq v9 v10 w' => ∃ m : Nat, v10 = .int .i64 (m : Int) ∧ Aside0 (m + kq = v.length ∧ N ≤ m) ∧ Aside0 (Kd.R kV 55 w' w.heap.size (fun _ => True) v9 (((v.take m).drop N).map (Pure.subV N))) ∧ Aside0 (Kd.R k42 42 w' w.heap.size (fun _ => True) (.slice Ac t.length cc) t) ∧ Aside0 (∀ q, v9.ownBlock = some q → some q ≠ (Value.slice Ac t.length cc).ownBlock) ∧ Aside0 (Below w.heap.size w w'))
      case atStart => exact ⟨N, rfl, ⟨by have := HN.out; omega⟩, ⟨by rw [List.drop_eq_nil_of_le (by rw [List.length_take]; omega)]; exact Kd.R_nil _ _ _ _ _⟩, HT1, ⟨fun q hq => by cases hq⟩, HB1⟩
      case round =>
        clear HB1 HT1
        obtain ⟨m, rfl, HI, H9, HT, HNE, HB⟩ := hrel
        cases gk with
        | zero =>
          obtain rfl : m = v.length := by have := HI.out; omega
          rw [List.take_length] at H9
          go_wp2
          go_meet
          case rel => exact ⟨H9, HT, HB⟩
        | succ kq =>
          have HM : Aside0 (m < v.length) := ⟨by have := HI.out; omega⟩
          have c1b : decide ((m : Int) < (v.length : Int)) = true := decide_eq_true (by have := HM.out; omega); have c1i : ((m : Int) < (v.length : Int)) = True := eq_true (by have := HM.out; omega); have c1n : (m < v.length) = True := eq_true HM.out
          have p0 : (0 ≤ (m : Int)) = True := eq_true (by omega)
          have hw1 : wrap64 ((m : Int) + 1) = (m : Int) + 1 := by have := HM.out; have := HN.out; unfold wrap64; omega
          obtain ⟨av, ev, hy0, hy1, hy2, hy3, hy4, hy5, hy6, hy7⟩ := at_TV (Kd.C_below HV.out.1 HB.out) (m : Int) (by omega) (by have := HM.out; omega)
          subst ev
          have HTX : Aside0 (((v.take (m + 1)).drop N).map (Pure.subV N) = ((v.take m).drop N).map (Pure.subV N) ++ [Pure.subV N (rd_TV v (m : Int))]) := ⟨by
            have e : rd_TV v (m : Int) = v[m]'HM.out := by simp [rd_TV, HM.out]
            rw [e, ← List.take_append_getElem HM.out, List.drop_append_of_le_length (by rw [List.length_take]; have := HI.out; have := HM.out; omega), List.map_append]; rfl⟩
          have HLX : Aside0 ((((v.take m).drop N).map (Pure.subV N)).length ≤ 2000) := ⟨by rw [List.length_map, List.length_drop, List.length_take]; have := HN.out; omega⟩
          simp only [Int.toNat_natCast, slV] at hy0 hy1 hy2 hy3 hy4 hy5 hy6 hy7
          generalize rd_TV v (m : Int) = y at hy0 hy1 hy2 hy3 hy4 hy5 hy6 hy7 HTX
          generalize hxs : ((v.take m).drop N).map (Pure.subV N) = xs at H9 HTX HLX
          clear hxs
          obtain ⟨z0, z1, z2, z3, z4, z5, ⟨B6, n6, d6⟩, z7⟩ := y
          dsimp only at hy0 hy1 hy2 hy3 hy4 hy5 hy6 hy7
          go_upto_region 11 with (fail)
          have HG : Aside0 ((wr.alloc (.cells #[.int .i64 z0, .int .i64 z1, .int .i64 z2, .int .i64 z3, .string z4, .int .i64 z5, .slice B6 n6 d6, .int .i64 z7] 55)).heap[wr.heap.size]? = some (.cells #[.int .i64 z0, .int .i64 z1, .int .i64 z2, .int .i64 z3, .string z4, .int .i64 z5, .slice B6 n6 d6, .int .i64 z7] 55 (0, 0))) := ⟨blk_new wr _⟩
          have HGL : Aside0 (w.heap.size ≤ wr.heap.size) := ⟨HB.out.size⟩
          have hb1 := below_alloc (Below.refl wr.heap.size wr) (.cells #[.int .i64 z0, .int .i64 z1, .int .i64 z2, .int .i64 z3, .string z4, .int .i64 z5, .slice B6 n6 d6, .int .i64 z7] 55)
          have H9b : Aside0 (Kd.R kV 55 (wr.alloc (.cells #[.int .i64 z0, .int .i64 z1, .int .i64 z2, .int .i64 z3, .string z4, .int .i64 z5, .slice B6 n6 d6, .int .i64 z7] 55)) w.heap.size (fun k => k < wr.heap.size) u9 xs) := ⟨Kd.R_mono (Kd.R_below (Kd.R_bound H9.out) hb1) (fun k hk => hk.2.2.1)⟩
          have HTb : Aside0 (Kd.R k42 42 (wr.alloc (.cells #[.int .i64 z0, .int .i64 z1, .int .i64 z2, .int .i64 z3, .string z4, .int .i64 z5, .slice B6 n6 d6, .int .i64 z7] 55)) w.heap.size (fun k => k < wr.heap.size) (.slice Ac t.length cc) t) := ⟨Kd.R_mono (Kd.R_below (Kd.R_bound HT.out) hb1) (fun k hk => hk.2.2.1)⟩
          replace HB := Aside0.mk (below_then HB.out HB.out.size hb1)
          clear hb1 hy0 hy1 hy2 hy3 hy4 hy5 hy6 hy7 H9 HT
          generalize wr.alloc (.cells #[.int .i64 z0, .int .i64 z1, .int .i64 z2, .int .i64 z3, .string z4, .int .i64 z5, .slice B6 n6 d6, .int .i64 z7] 55) = w3 at HG H9b HTb HB ⊢
          generalize wr.heap.size = g at HG H9b HTb HGL ⊢
          have x0 : w3.cell? ⟨g, 0, none⟩ = some (.int .i64 z0) := (blk_cell HG.out 0).trans rfl
          have f0 : w3.frozen? ⟨g, 0, none⟩ = false := blk_frozen HG.out 0
          go_upto_region 12 with (fail)
          have HG4 := Aside0.mk (blk_put HG.out 0 (.int .i64 (wrap64 (z0 - (N : Int)))) (cs' := #[.int .i64 (wrap64 (z0 - (N : Int))), .int .i64 z1, .int .i64 z2, .int .i64 z3, .string z4, .int .i64 z5, .slice B6 n6 d6, .int .i64 z7]) rfl)
          have H9c : Aside0 (Kd.R kV 55 (w3.setCell ⟨g, 0, none⟩ (.int .i64 (wrap64 (z0 - (N : Int))))) w.heap.size (fun _ => True) u9 xs) := ⟨Kd.R_mono (Kd.R_far H9b.out (p := ⟨g, 0, none⟩) (fun k hk => Nat.ne_of_lt hk) _) (fun _ _ => trivial)⟩
          have HTc : Aside0 (Kd.R k42 42 (w3.setCell ⟨g, 0, none⟩ (.int .i64 (wrap64 (z0 - (N : Int))))) w.heap.size (fun _ => True) (.slice Ac t.length cc) t) := ⟨Kd.R_mono (Kd.R_far HTb.out (p := ⟨g, 0, none⟩) (fun k hk => Nat.ne_of_lt hk) _) (fun _ _ => trivial)⟩
          replace HB := Aside0.mk (HB.out.setCell (p := ⟨g, 0, none⟩) HGL.out (.int .i64 (wrap64 (z0 - (N : Int)))))
          clear x0 f0 HG H9b HTb
          generalize w3.setCell ⟨g, 0, none⟩ (.int .i64 (wrap64 (z0 - (N : Int)))) = w4 at HG4 H9c HTc HB ⊢
          have x0 : w4.cell? ⟨g, 0, none⟩ = some (.int .i64 (wrap64 (z0 - (N : Int)))) := (blk_cell HG4.out 0).trans rfl
          have x1 : w4.cell? ⟨g, 1, none⟩ = some (.int .i64 z1) := (blk_cell HG4.out 1).trans rfl
          have x2 : w4.cell? ⟨g, 2, none⟩ = some (.int .i64 z2) := (blk_cell HG4.out 2).trans rfl
          have x3 : w4.cell? ⟨g, 3, none⟩ = some (.int .i64 z3) := (blk_cell HG4.out 3).trans rfl
          have x4 : w4.cell? ⟨g, 4, none⟩ = some (.string z4) := (blk_cell HG4.out 4).trans rfl
          have x5 : w4.cell? ⟨g, 5, none⟩ = some (.int .i64 z5) := (blk_cell HG4.out 5).trans rfl
          have x6 : w4.cell? ⟨g, 6, none⟩ = some (.slice B6 n6 d6) := (blk_cell HG4.out 6).trans rfl
          have x7 : w4.cell? ⟨g, 7, none⟩ = some (.int .i64 z7) := (blk_cell HG4.out 7).trans rfl
          go_wp2_with ((with_reducible refine gate_builtin (b := .append) (xs := #[.tmp 64, .tmp 66]) rfl ?_); at_builtin; refine Kd.R_append kV (w0 := w) (W := w4) w.heap.size rfl (.tmp 64) (.tmp 66) 23 55 (.agg #[.int .i64 0, .int .i64 0, .int .i64 0, .int .i64 0, .string ⟨#[]⟩, .int .i64 0, .slice none 0 0, .int .i64 0]) 88 rfl Try.underlying23 info55 rfl (by decide) (by omega) u9 xs (Pure.subV N ⟨z0, z1, z2, z3, z4, z5, (B6, n6, d6), z7⟩) [.int .i64 (wrap64 (z0 - (N : Int))), .int .i64 z1, .int .i64 z2, .int .i64 z3, .string z4, .int .i64 z5, .slice B6 n6 d6, .int .i64 z7] (fun _ => True) (fun _ => False) rfl rfl ?aP (fun _ hk => hk.elim) ?aF ?aO ?aB ?aS ?aL ?_; (case aP => exact kV_mkM _ _ _ (Pure.subV N ⟨z0, z1, z2, z3, z4, z5, (B6, n6, d6), z7⟩)); (case aB => exact HB.out); (case aF => exact (fun _ _ => trivial)); (case aO => exact H9c.out); (case aS => exact HB.out.size); (case aL => have := HLX.out; omega); intro v99 w5 ho hb hg hat; rw [← HTX.out] at ho; have H95 := Aside0.mk ho; have HB5 := Aside0.mk hb; have HT5 := Aside0.mk (Kd.R_grown2 HTc.out rfl hg HNE.out); have HNE5 : Aside0 (∀ q, v99.ownBlock = some q → some q ≠ (Value.slice Ac t.length cc).ownBlock) := ⟨fun q hq he => by rcases hat with e | ⟨b, e, hbb⟩; (· exact HNE.out q (by rw [← e]; exact hq) he); (· have h1 := Kd.R_lt HTc.out q he.symm; rw [hq] at e; injection e with e; omega)⟩; clear ho hb hg hat H9c HTc HB HNE)
          go_roundg kq
          case measure => omega
          case rel => exact ⟨m + 1, by push_cast; first | rfl | rw [hw1], ⟨by have := HI.out; omega⟩, H95, HT5, HNE5, HB5⟩
    case rest =>
      clear HT1 HB1
      obtain ⟨H9, HT, HB⟩ := hcut
      obtain ⟨A9, c9, e9, h9⟩ := Kd.R_reads H9.out
      subst e9
      have HK := HN.out
      obtain ⟨i67, hi67, _, hsz67, _⟩ := info_parts info67
      obtain ⟨i55, hi55, _, hsz55, _⟩ := info_parts info55
      have t1 := cut_to (P := Try.prog) 22 67 .i64 Try.underlying22 hi67 A0 l.length c0 (N : Int) (by omega) (by omega) HC.out.2
      have t2 := cut_to (P := Try.prog) 23 55 .i64 Try.underlying23 hi55 A1 v.length c1 (N : Int) (by omega) (by omega) HV.out.2
      have t3 := cut_from (P := Try.prog) 22 67 .i64 Try.underlying22 hi67 5 hsz67 A0 l.length c0 (N : Int) (by omega) (by omega)
      have m1 := Kd.C_take (m := N) HC.out.1 (by omega)
      have m2 := Kd.C_take (m := N) HV.out.1 (by omega)
      have m3 := Kd.C_drop (m := N) (c := c0) HC.out.1 (by omega) HC.out.2
      have l1 : (l.take N).length = N := by rw [List.length_take]; omega
      have l2 : (v.take N).length = N := by rw [List.length_take]; omega
      have l3 : (l.drop N).length = l.length - N := List.length_drop
      have ht0 : ((N : Int)).toNat = N := Int.toNat_natCast N
      rw [ht0] at t1 t2 t3
      have HW := HP.out
      have hcl : (l.take N).length ≤ c0 := by have := HC.out.2; omega
      have hcv : (v.take N).length ≤ c1 := by have := HV.out.2; omega
      have hcd : (l.drop N).length ≤ c0 - N := by have := HC.out.2; omega
      rw [show k67.sz = 5 from rfl] at m3
      rw [← l3] at t3
      have t1' : ∀ W : World, (Instr.slice 22 (.slice A0 l.length c0) none (some (.int .i64 (N : Int))) none).run Try.prog W = .ok (.slice A0 (l.take N).length c0) W := by rw [l1]; exact t1
      have t2' : ∀ W : World, (Instr.slice 23 (.slice A1 v.length c1) none (some (.int .i64 (N : Int))) none).run Try.prog W = .ok (.slice A1 (v.take N).length c1) W := by rw [l2]; exact t2
      clear t1 t2
      generalize (if c0 = N then A0 else A0.map (·.add (N * 5))) = A3 at t3 m3
      generalize c0 - N = c3 at t3 hcd
      generalize l.take N = L1 at t1' m1 l1 HW hcl
      generalize v.take N = V1 at t2' m2 l2 HW hcv
      generalize l.drop N = L2 at t3 m3 l3 HW hcd
      generalize (v.drop N).map (Pure.subV N) = W2 at h9 HW ⊢
      have HM1 := Aside0.mk (And.intro m1 hcl)
      have HM2 := Aside0.mk (And.intro m2 hcv)
      have HM3 := Aside0.mk (And.intro m3 hcd)
      have H9' := Aside0.mk h9
      have hGa : CountG L1 V1 = (ta, 0) := by unfold CountG; rw [HW.1]
      have hGb : CountG L2 W2 = (tb, 0) := by unfold CountG; rw [HW.2.1]
      have HQ := Aside0.mk HW.2.2
      clear m1 m2 m3 hcl hcv hcd h9 H9 HW l1 l2 l3 ht0 HP HK hi67 hsz67 hi55 hsz55
      obtain ⟨-, hct, hCt⟩ := Kd.R_reads' HT.out
      have HT0 := Aside0.mk (And.intro hCt hct)
      clear hCt hct HT
      go_upto_region 13 with (fail)
      refine start_ (n := 12) (S := fun w' => True) (ds := [6]) #[false, false, false, false, false, false, false, false, false, false, false, false] (by kernel_rfl) rfl rfl trivial (fun hHeld => ?_); refine with_tabW tab_f8.tab13 tab_f8.bits13 (fun HT_ HW_ => ?_)
      have HB2 := Aside0.mk (below_drew HB.out); have HT2 := Aside0.mk (And.intro (Kd.C_below HT0.out.1 (below_drew (Below.refl _ _))) HT0.out.2); have H92 := Aside0.mk (And.intro H9'.out.1 (Kd.C_below H9'.out.2 (below_drew (Below.refl _ _)))); clear HB HT0 H9'; generalize wc.drew = w2 at HB2 HT2 H92 hHeld ⊢
      refine pure_ (i := 0) (N := some 69) (v := ?_) (a' := ?_) #[true, false, false, false, false, false, false, false, false, false, false, false] rfl rfl (any_of HT_.out (by kernel_rfl)) (fun _ _ _ h => h) (Or.inl ⟨by rfl, ?_⟩) ?_ ?_
      rotate_left
      · intro w'
        go_simp
        with_reducible rfl
      rotate_left
      · simp only [Act.put, List.setIfInBounds_toArray, List.set_cons_zero, List.set_cons_succ, i64_w, i32_w]
        rfl
      refine pure_ (i := 1) (N := some 70) (v := ?_) (a' := ?_) #[true, true, false, false, false, false, false, false, false, false, false, false] rfl rfl (any_of HT_.out (by kernel_rfl)) (fun _ _ _ h => h) (Or.inl ⟨by rfl, ?_⟩) ?_ ?_
      rotate_left
      · intro w'
        go_simp
        with_reducible rfl
      rotate_left
      · simp only [Act.put, List.setIfInBounds_toArray, List.set_cons_zero, List.set_cons_succ, i64_w, i32_w]
        rfl
      refine pure_ (i := 2) (N := some 71) (v := ?_) (a' := ?_) #[true, true, true, false, false, false, false, false, false, false, false, false] rfl rfl (any_of HT_.out (by kernel_rfl)) (fun _ _ _ h => h) (Or.inl ⟨by rfl, ?_⟩) ?_ ?_
      rotate_left
      · intro w'
        go_simp
        with_reducible rfl
      rotate_left
      · simp only [Act.put, List.setIfInBounds_toArray, List.set_cons_zero, List.set_cons_succ, i64_w, i32_w]
        rfl
      refine pure_ (i := 3) (N := some 72) (v := ?_) (a' := ?_) #[true, true, true, true, false, false, false, false, false, false, false, false] rfl rfl (any_of HT_.out (by kernel_rfl)) (fun _ _ _ h => h) (Or.inl ⟨by rfl, ?_⟩) ?_ ?_
      rotate_left
      · intro w'
        go_simp
        with_reducible rfl
      rotate_left
      · simp only [Act.put, List.setIfInBounds_toArray, List.set_cons_zero, List.set_cons_succ, i64_w, i32_w]
        rfl
      refine pure_ (i := 4) (N := some 73) (v := ?_) (a' := ?_) #[true, true, true, true, true, false, false, false, false, false, false, false] rfl rfl (any_of HT_.out (by kernel_rfl)) (fun _ _ _ h => h) (Or.inl ⟨by rfl, ?_⟩) ?_ ?_
      rotate_left
      · intro w'
        go_simp
        with_reducible rfl
      rotate_left
      · simp only [Act.put, List.setIfInBounds_toArray, List.set_cons_zero, List.set_cons_succ, i64_w, i32_w]
        rfl
      refine pure_ (i := 5) (N := some 74) (v := ?_) (a' := ?_) #[true, true, true, true, true, true, false, false, false, false, false, false] rfl rfl (any_of HT_.out (by kernel_rfl)) (fun _ _ _ h => h) (Or.inl ⟨by rfl, ?_⟩) ?_ ?_
      rotate_left
      · intro w'
        go_simp
        with_reducible rfl
      rotate_left
      · simp only [Act.put, List.setIfInBounds_toArray, List.set_cons_zero, List.set_cons_succ, i64_w, i32_w]
        rfl
      refine last_ (i := 6) (N := some 75) #[true, true, true, true, true, true, true, false, false, false, false, false] rfl rfl (one_of HT_.out (by kernel_rfl)) (by decide) (fun K hK => ?_)
      refine goes_ Try.func10 (by kernel_rfl) rfl #[.slice A0 L1.length c0, .slice A1 V1.length c1] (by rfl) rfl rfl (by simp only [List.map_toArray, List.map_cons, List.map_nil]; rfl) ?_
      with_reducible refine (stat_Count.calls A0 c0 L1 A1 c1 V1 _ (Kd.C_below HM1.out.1 HB2.out) HM1.out.2 (Kd.C_below HM2.out.1 HB2.out) HM2.out.2).mono ?_
      rintro e w5 ⟨va, rfl, hR5, hb5⟩
      refine ⟨_, rfl, ?_⟩
      rw [hGa] at hR5
      simp only [hGa]
      obtain ⟨Aa, ca, rfl, hca, hCa⟩ := Kd.R_reads hR5
      have HA5 := Aside0.mk (And.intro hCa hca)
      have HB5 := Aside0.mk (below_then HB2.out HB2.out.size hb5)
      have HT5 := Aside0.mk (And.intro (Kd.C_below HT2.out.1 hb5) HT2.out.2)
      have H95 := Aside0.mk (And.intro (Kd.C_below H92.out.2 hb5) H92.out.1)
      clear hR5 hb5 hca hCa HB2 HT2 H92
      refine hK.out _ _ ?_
      clear hK K
      refine norm_ (a' := ?_) ?_ ?_
      rotate_left
      · show Act.put _ (some 75) _ = _
        simp only [Act.put, List.setIfInBounds_toArray, List.set_cons_zero, List.set_cons_succ, i64_w, i32_w]
        rfl
      refine pure_ (i := 7) (N := some 68) (v := ?_) (a' := ?_) #[true, true, true, true, true, true, true, true, false, false, false, false] rfl rfl (any_of HT_.out (by kernel_rfl)) (fun _ _ _ h => h) (Or.inl ⟨by rfl, ?_⟩) ?_ ?_
      rotate_left
      · intro w'
        go_simp
        with_reducible rfl
      rotate_left
      · simp only [Act.put, List.setIfInBounds_toArray, List.set_cons_zero, List.set_cons_succ, i64_w, i32_w]
        rfl
      refine pure_ (i := 8) (N := some 76) (v := ?_) (a' := ?_) #[true, true, true, true, true, true, true, true, true, false, false, false] rfl rfl (any_of HT_.out (by kernel_rfl)) (fun _ _ _ h => h) (Or.inl ⟨by rfl, ?_⟩) ?_ ?_
      rotate_left
      · intro w'
        go_simp
        with_reducible rfl
      rotate_left
      · simp only [Act.put, List.setIfInBounds_toArray, List.set_cons_zero, List.set_cons_succ, i64_w, i32_w]
        rfl
      refine pure_ (i := 9) (N := some 77) (v := ?_) (a' := ?_) #[true, true, true, true, true, true, true, true, true, true, false, false] rfl rfl (any_of HT_.out (by kernel_rfl)) (fun _ _ _ h => h) (Or.inl ⟨by rfl, ?_⟩) ?_ ?_
      rotate_left
      · intro w'
        go_simp
        with_reducible rfl
      rotate_left
      · simp only [Act.put, List.setIfInBounds_toArray, List.set_cons_zero, List.set_cons_succ, i64_w, i32_w]
        rfl
      refine pure_ (i := 10) (N := some 12) (v := ?_) (a' := ?_) #[true, true, true, true, true, true, true, true, true, true, true, false] rfl rfl (any_of HT_.out (by kernel_rfl)) (fun _ _ _ h => h) (Or.inl ⟨by rfl, ?_⟩) ?_ ?_
      rotate_left
      · intro w'
        go_simp
        with_reducible rfl
      rotate_left
      · simp only [Act.put, List.setIfInBounds_toArray, List.set_cons_zero, List.set_cons_succ, i64_w, i32_w]
        rfl
      refine pure_ (i := 11) (N := some 13) (v := ?_) (a' := ?_) #[true, true, true, true, true, true, true, true, true, true, true, true] rfl rfl (any_of HT_.out (by kernel_rfl)) (fun _ _ _ h => h) (Or.inl ⟨by rfl, ?_⟩) ?_ ?_
      rotate_left
      · intro w'
        go_simp
        with_reducible rfl
      rotate_left
      · simp only [Act.put, List.setIfInBounds_toArray, List.set_cons_zero, List.set_cons_succ, i64_w, i32_w]
        rfl
      refine done_ (done_of HT_.out (by kernel_rfl)) ?_
      dsimp only at HA5
      clear hHeld HT_ HW_ t1' t2' hGa
      go_wp2_with (first | (go_at_call 10; go_must (refine (stat_Count.calls A3 c3 L2 A9 c9 W2 w5 (Kd.C_below HM3.out.1 HB5.out) HM3.out.2 H95.out.1 H95.out.2).mono ?_; rw [hGb]; rintro e w6 ⟨vb, rfl, hR6, hb6⟩; dsimp only at hR6; obtain ⟨Ab, cb, rfl, hcb, hCb⟩ := Kd.R_reads hR6; have HE6 := Aside0.mk (And.intro hCb hcb); have HA6 := Aside0.mk (And.intro (Kd.C_below HA5.out.1 hb6) HA5.out.2); have HT6 := Aside0.mk (And.intro (Kd.C_below HT5.out.1 hb6) HT5.out.2); have HB6 := Aside0.mk (below_then HB5.out HB5.out.size hb6); clear hR6 hb6 hcb hCb HA5 HB5 HT5 H95)) | (go_at_call 25; go_must (refine (stat_Merge.calls 10000 Aa ca ta Ab cb tb t 0 w6 HA6.out.1 HA6.out.2 HE6.out.1 HE6.out.2 HQ.out.1).mono ?_; rintro e w7 ⟨vm, rfl, hR7, hb7⟩; obtain ⟨Am, cm, rfl, hcm, hCm⟩ := Kd.R_reads hR7; have HM7 := Aside0.mk (And.intro hCm hcm); have HT7 := Aside0.mk (And.intro (Kd.C_below HT6.out.1 hb7) HT6.out.2); have HB7 := Aside0.mk (below_then HB6.out HB6.out.size hb7); clear hR7 hb7 hcm hCm HA6 HB6 HT6 HE6)) | (go_at_call 13; refine (changelinglaw25_rows.calls 100 Am cm t rs w7 HM7.out.1 HM7.out.2 HQ.out.2.1).mono ?_; rintro e w8 ⟨v8, rfl, ho, hb8⟩; obtain ⟨Ar, cr, rfl, hcr, hCr⟩ := Kd.R_reads (Kd.S_R ho); have HR8 := Aside0.mk (And.intro hCr hcr); have HT8 := Aside0.mk (And.intro (Kd.C_below HT7.out.1 hb8) HT7.out.2); have HB8 := Aside0.mk (below_then HB7.out HB7.out.size hb8); clear ho hb8 hcr hCr HM7 HB7 HT7) | (go_at_call 13; refine (changelinglaw25_rows.calls 100 Ac cc t rs w8 HT8.out.1 HT8.out.2 HQ.out.2.1).mono ?_; rintro e w9 ⟨v9, rfl, ho, hb9⟩; obtain ⟨Aq, cq, rfl, hcq, hCq⟩ := Kd.R_reads (Kd.S_R ho); have HS9 := Aside0.mk (And.intro hCq hcq); have HR9 := Aside0.mk (And.intro (Kd.C_below HR8.out.1 hb9) HR8.out.2); have HB9 := Aside0.mk (below_then HB8.out HB8.out.size hb9); clear ho hb9 hcq hCq HR8 HB8 HT8) | (go_at_call 12; go_must (refine (changelinglaw25_same.calls 100 Ar cr rs Aq cq rs true w9 HR9.out.1 HR9.out.2 HS9.out.1 HS9.out.2 HQ.out.2.2).mono ?_; rintro e w10 ⟨rfl, hd⟩; have HB10 := Aside0.mk (below_then HB9.out HB9.out.size hd.below); clear hd HB9 HR9 HS9)) | (go_at_call 9; go_must (refine (changelinglaw25_known.calls true w10 rfl).mono ?_; rintro e w11 ⟨rfl, hb11⟩; have HB11 := Aside0.mk (below_then HB10.out HB10.out.size hb11); clear hb11 HB10)))
      go_ret
      exact ⟨rfl, HB11.out⟩
end Go.Proofs.Ytcmknnhhbcgoiaa.QN
