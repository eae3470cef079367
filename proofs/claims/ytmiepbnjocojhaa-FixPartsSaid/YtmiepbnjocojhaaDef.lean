/- The machine's side of fix.Default: the call gives what a plain Lean function says; no condition. -/
import Derived.Test.YtmiepbnjocojhaaQN4
import Derived.Test.YtmiepbnjocojhaaOwn
import Derived.Deep.DeepMust
namespace Go.Proofs.Ytmiepbnjocojhaa.QN
open Go.RowKit Go.Proofs.YtmiepbnjocojhaaW.PrintWords Go.Proofs.YtmiepbnjocojhaaW.PrintLast Go.Proofs.YtmiepbnjocojhaaW.PrintMore
set_option linter.unusedVariables false
set_option linter.unusedSimpArgs false
def fix_Default.f (k : Nat) (a0 : ByteArray) : Option (ByteArray × Int × Int × Int × Int) :=
  (num_Op.f k a0).bind fun n => (num_Rel.f n).bind fun b =>
    if b = true then some (a0, 0, 4, 0, 0) else if a0.toList = ([43] : List UInt8) ∨ a0.toList = ([45] : List UInt8) then some (a0, 1, 6, 0, 0) else if n > 0 then some (a0, 1, 7, 0, 0) else some (a0, 1, 9, 0, 0)
theorem fix_Default.mono (a0 : ByteArray) (k : Nat) : LeO (fix_Default.f k a0) (fix_Default.f (k + 1) a0) := by
  unfold fix_Default.f
  exact LeO.bind (num_Op.mono _ _) (fun _ => LeO.refl _)
set_option maxHeartbeats 4000000 in
set_option maxRecDepth 100000 in
theorem fix_Default.calls (k : Nat) (a0 : ByteArray) (r1 : ByteArray) (r2 : Int) (r3 : Int) (r4 : Int) (r5 : Int) (w : World) (h : fix_Default.f k a0 = some (r1, r2, r3, r4, r5)) :
    Calls Try.prog 15 #[.string a0] w fun e w' => e = .returned (.agg #[.string r1, .int .i64 r2, .int .i64 r3, .int .i64 r4, .int .i64 r5]) ∧ Below w.heap.size w w' := by
  obtain ⟨n, A, H⟩ := Option.bind_eq_some_iff.mp h
  obtain ⟨b, B, H⟩ := Option.bind_eq_some_iff.mp H
  have HA := Aside0.mk A
  have HB := Aside0.mk B
  obtain ⟨s, lv, rfl, rfl, rfl, rfl, rfl, hcase⟩ : ∃ s lv, a0 = r1 ∧ r2 = s ∧ r3 = lv ∧ r4 = 0 ∧ r5 = 0 ∧ ((b = true ∧ s = 0 ∧ lv = 4) ∨ (b = false ∧ (a0.toList == ([43] : List UInt8)) = true ∧ s = 1 ∧ lv = 6) ∨ (b = false ∧ (a0.toList == ([43] : List UInt8)) = false ∧ (a0.toList == ([45] : List UInt8)) = true ∧ s = 1 ∧ lv = 6) ∨
      (b = false ∧ (a0.toList == ([43] : List UInt8)) = false ∧ (a0.toList == ([45] : List UInt8)) = false ∧ decide (0 < n) = true ∧ s = 1 ∧ lv = 7) ∨ (b = false ∧ (a0.toList == ([43] : List UInt8)) = false ∧ (a0.toList == ([45] : List UInt8)) = false ∧ decide (0 < n) = false ∧ s = 1 ∧ lv = 9)) := by
    cases b with
    | true => simp only [if_true, Option.some.injEq, Prod.mk.injEq] at H; exact ⟨0, 4, H.1, H.2.1.symm, H.2.2.1.symm, H.2.2.2.1.symm, H.2.2.2.2.symm, Or.inl ⟨rfl, rfl, rfl⟩⟩
    | false =>
      rw [if_neg (by simp)] at H
      by_cases c1 : a0.toList = ([43] : List UInt8)
      · rw [if_pos (Or.inl c1)] at H
        simp only [Option.some.injEq, Prod.mk.injEq] at H
        exact ⟨1, 6, H.1, H.2.1.symm, H.2.2.1.symm, H.2.2.2.1.symm, H.2.2.2.2.symm, Or.inr (Or.inl ⟨rfl, beq_iff_eq.mpr c1, rfl, rfl⟩)⟩
      · by_cases c2 : a0.toList = ([45] : List UInt8)
        · rw [if_pos (Or.inr c2)] at H
          simp only [Option.some.injEq, Prod.mk.injEq] at H
          exact ⟨1, 6, H.1, H.2.1.symm, H.2.2.1.symm, H.2.2.2.1.symm, H.2.2.2.2.symm, Or.inr (Or.inr (Or.inl ⟨rfl, beq_eq_false_iff_ne.mpr c1, beq_iff_eq.mpr c2, rfl, rfl⟩))⟩
        · rw [if_neg (by rintro (h | h); exact c1 h; exact c2 h)] at H
          by_cases c3 : n > 0
          · rw [if_pos c3] at H
            simp only [Option.some.injEq, Prod.mk.injEq] at H
            exact ⟨1, 7, H.1, H.2.1.symm, H.2.2.1.symm, H.2.2.2.1.symm, H.2.2.2.2.symm, Or.inr (Or.inr (Or.inr (Or.inl ⟨rfl, beq_eq_false_iff_ne.mpr c1, beq_eq_false_iff_ne.mpr c2, decide_eq_true c3, rfl, rfl⟩)))⟩
          · rw [if_neg c3] at H
            simp only [Option.some.injEq, Prod.mk.injEq] at H
            exact ⟨1, 9, H.1, H.2.1.symm, H.2.2.1.symm, H.2.2.2.1.symm, H.2.2.2.2.symm, Or.inr (Or.inr (Or.inr (Or.inr ⟨rfl, beq_eq_false_iff_ne.mpr c1, beq_eq_false_iff_ne.mpr c2, decide_eq_false c3, rfl, rfl⟩)))⟩
  have HC := Aside0.mk hcase
  clear A B H h hcase
  go_enter Try.func15, Try.ntmps15
  go_upto_block 0 with (go_at_call 24; go_must (refine (num_Op.calls k a0 n _ HA.out).mono ?_; rintro e w1 ⟨rfl, ⟨nd, rfl⟩⟩))
  have B2 : Aside0 ((((w.alloc (.cells #[.string (⟨#[]⟩ : ByteArray), .int .i64 0, .int .i64 0, .int .i64 0, .int .i64 0] 36)).alloc (.cells #[.string a0, .int .i64 1, .int .i64 9, .int .i64 0, .int .i64 0] 36)).drewN nd).heap[w.heap.size]? = some (.cells #[.string (⟨#[]⟩ : ByteArray), .int .i64 0, .int .i64 0, .int .i64 0, .int .i64 0] 36 (0, 0))) := ⟨blk_drewN (blk_alloc (blk_new w _) _) _⟩
  have B3 : Aside0 ((((w.alloc (.cells #[.string (⟨#[]⟩ : ByteArray), .int .i64 0, .int .i64 0, .int .i64 0, .int .i64 0] 36)).alloc (.cells #[.string a0, .int .i64 1, .int .i64 9, .int .i64 0, .int .i64 0] 36)).drewN nd).heap[w.heap.size + 1]? = some (.cells #[.string a0, .int .i64 1, .int .i64 9, .int .i64 0, .int .i64 0] 36 (0, 0))) := ⟨blk_drewN (by have := blk_new (w.alloc (.cells #[.string (⟨#[]⟩ : ByteArray), .int .i64 0, .int .i64 0, .int .i64 0, .int .i64 0] 36)) (.cells #[.string a0, .int .i64 1, .int .i64 9, .int .i64 0, .int .i64 0] 36); simpa using this) _⟩
  have BW : Aside0 (Below w.heap.size w (((w.alloc (.cells #[.string (⟨#[]⟩ : ByteArray), .int .i64 0, .int .i64 0, .int .i64 0, .int .i64 0] 36)).alloc (.cells #[.string a0, .int .i64 1, .int .i64 9, .int .i64 0, .int .i64 0] 36)).drewN nd)) := ⟨pw_below_drewN (below_alloc (below_alloc (Below.refl _ _) _) _) _⟩
  generalize (((w.alloc (.cells #[.string (⟨#[]⟩ : ByteArray), .int .i64 0, .int .i64 0, .int .i64 0, .int .i64 0] 36)).alloc (.cells #[.string a0, .int .i64 1, .int .i64 9, .int .i64 0, .int .i64 0] 36)).drewN nd) = W at B2 B3 BW ⊢
  obtain ⟨g3, hg3⟩ : ∃ g, g = w.heap.size + 1 := ⟨_, rfl⟩
  obtain ⟨g2, hg2⟩ : ∃ g, g = w.heap.size := ⟨_, rfl⟩
  have G3 : Aside0 (w.heap.size ≤ g3) := ⟨by omega⟩
  have G2 : Aside0 (w.heap.size ≤ g2) := ⟨by omega⟩
  have GN : Aside0 (g3 ≠ g2) := ⟨by omega⟩
  rw [← hg3, ← hg2]
  rw [← hg3] at B3
  have B2' : Aside0 (W.heap[g2]? = some (.cells #[.string (⟨#[]⟩ : ByteArray), .int .i64 0, .int .i64 0, .int .i64 0, .int .i64 0] 36 (0, 0))) := ⟨by rw [hg2]; exact B2.out⟩
  clear B2 hg2 hg3
  go_cut [9] (fun v9 wc => Aside0 (wc.heap[g3]? = some (.cells #[.string a0, .int .i64 r2, .int .i64 r3, .int .i64 0, .int .i64 0] 36 (0, 0))) ∧ Aside0 (wc.heap[g2]? = some (.cells #[.string (⟨#[]⟩ : ByteArray), .int .i64 0, .int .i64 0, .int .i64 0, .int .i64 0] 36 (0, 0))) ∧ Aside0 (Below w.heap.size w wc))
  case first =>
    have hc1 : W.cell? ⟨g3, 1, none⟩ = some (.int .i64 1) := (blk_cell B3.out 1).trans rfl
    have hc2 : W.cell? ⟨g3, 2, none⟩ = some (.int .i64 9) := (blk_cell B3.out 2).trans rfl
    have hf1 : W.frozen? ⟨g3, 1, none⟩ = false := blk_frozen B3.out 1
    have hf2 : W.frozen? ⟨g3, 2, none⟩ = false := blk_frozen B3.out 2
    rcases HC.out with ⟨rfl, rfl, rfl⟩ | ⟨rfl, e1, rfl, rfl⟩ | ⟨rfl, e1, e2, rfl, rfl⟩ | ⟨rfl, e1, e2, e3, rfl, rfl⟩ | ⟨rfl, e1, e2, e3, rfl, rfl⟩
    all_goals
      clear HC
      go_wp2_with (go_at_call 25; go_must (refine (num_Rel.calls n _ _ HB.out).mono ?_; rintro e w1 ⟨rfl, ⟨nd2, rfl⟩⟩))
      go_meet
    · exact ⟨⟨blk_put (blk_put (blk_drewN B3.out nd2) 1 _ rfl) 2 _ rfl⟩, ⟨blk_far (blk_far (blk_drewN B2'.out nd2) (p := ⟨g3, 1, none⟩) (fun h => GN.out h.symm) _) (p := ⟨g3, 2, none⟩) (fun h => GN.out h.symm) _⟩, ⟨below_set (below_set (pw_below_drewN BW.out nd2) G3.out) G3.out⟩⟩
    · exact ⟨⟨blk_put (blk_drewN B3.out nd2) 2 _ rfl⟩, ⟨blk_far (blk_drewN B2'.out nd2) (p := ⟨g3, 2, none⟩) (fun h => GN.out h.symm) _⟩, ⟨below_set (pw_below_drewN BW.out nd2) G3.out⟩⟩
    · exact ⟨⟨blk_put (blk_drewN B3.out nd2) 2 _ rfl⟩, ⟨blk_far (blk_drewN B2'.out nd2) (p := ⟨g3, 2, none⟩) (fun h => GN.out h.symm) _⟩, ⟨below_set (pw_below_drewN BW.out nd2) G3.out⟩⟩
    · exact ⟨⟨blk_put (blk_drewN B3.out nd2) 2 _ rfl⟩, ⟨blk_far (blk_drewN B2'.out nd2) (p := ⟨g3, 2, none⟩) (fun h => GN.out h.symm) _⟩, ⟨below_set (pw_below_drewN BW.out nd2) G3.out⟩⟩
    · exact ⟨⟨blk_drewN B3.out nd2⟩, ⟨blk_drewN B2'.out nd2⟩, ⟨pw_below_drewN BW.out nd2⟩⟩
  case rest =>
    clear B2' B3 BW
    obtain ⟨B3, B2, BW⟩ := hcut
    have gn : g3 ≠ g2 := GN.out
    have gn' : g2 ≠ g3 := fun h => GN.out h.symm
    have h0 : wc.cell? ⟨g3, 0, none⟩ = some (.string a0) := (blk_cell B3.out 0).trans rfl
    have h1 : wc.cell? ⟨g3, 1, none⟩ = some (.int .i64 r2) := (blk_cell B3.out 1).trans rfl
    have h2 : wc.cell? ⟨g3, 2, none⟩ = some (.int .i64 r3) := (blk_cell B3.out 2).trans rfl
    have h3 : wc.cell? ⟨g3, 3, none⟩ = some (.int .i64 0) := (blk_cell B3.out 3).trans rfl
    have h4 : wc.cell? ⟨g3, 4, none⟩ = some (.int .i64 0) := (blk_cell B3.out 4).trans rfl
    have c0 : wc.cell? ⟨g2, 0, none⟩ = some (.string (⟨#[]⟩ : ByteArray)) := (blk_cell B2.out 0).trans rfl
    have c1 : wc.cell? ⟨g2, 1, none⟩ = some (.int .i64 0) := (blk_cell B2.out 1).trans rfl
    have c2 : wc.cell? ⟨g2, 2, none⟩ = some (.int .i64 0) := (blk_cell B2.out 2).trans rfl
    have c3 : wc.cell? ⟨g2, 3, none⟩ = some (.int .i64 0) := (blk_cell B2.out 3).trans rfl
    have c4 : wc.cell? ⟨g2, 4, none⟩ = some (.int .i64 0) := (blk_cell B2.out 4).trans rfl
    have f0 := blk_frozen B2.out 0
    have f1 := blk_frozen B2.out 1
    have f2 := blk_frozen B2.out 2
    have f3 := blk_frozen B2.out 3
    have f4 := blk_frozen B2.out 4
    go_wp2
    refine bodyPost_ret (results_cell_row rfl _ _ g2 36 #[.string a0, .int .i64 r2, .int .i64 r3, .int .i64 0, .int .i64 0] (0, 0) _ rfl (blk_put (blk_put (blk_put (blk_put (blk_put B2.out 0 _ rfl) 1 _ rfl) 2 _ rfl) 3 _ rfl) 4 _ rfl) Try.underlying36 rfl (by kernel_rfl)) rfl ?_
    exact ⟨rfl, below_set (below_set (below_set (below_set (below_set BW.out G2.out) G2.out) G2.out) G2.out) G2.out⟩
end Go.Proofs.Ytmiepbnjocojhaa.QN
