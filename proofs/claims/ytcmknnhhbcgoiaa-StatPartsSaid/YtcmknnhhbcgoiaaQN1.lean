-- Lines written by a program of this session (wip/tools/myprint.py); Lean checks them.
import Derived.Test.YtcmknnhhbcgoiaaQN0
namespace Go.Proofs.Ytcmknnhhbcgoiaa.QN
open Go.RowKit Go.Proofs.YtcmknnhhbcgoiaaW.PrintWords Go.Proofs.YtcmknnhhbcgoiaaW.PrintLast Go.Proofs.YtcmknnhhbcgoiaaW.PrintMore
attribute [local go_sem] max2_int min2_int max_two min_two max_three min_three max_four min_four   -- for this text's walks alone
set_option linter.unusedVariables false
set_option linter.unusedSimpArgs false

/-! ### stat_one: function 27 -/
def stat_one.f (a0 : Int) (a1 : Int) : Option (Int × Int × Int × Int × Int × Bool) := if a1 = 1 then (if a0 ≥ 1 then (some (a0, 1, 0, 0, 0, decide (a0 ≤ 14))) else (some (a0, 1, 0, 0, 0, false))) else (if a1 = 2 then (if a0 ≥ 1 then (some (a0, 0, 1, 0, 0, decide (a0 ≤ 14))) else (some (a0, 0, 1, 0, 0, false))) else (if a1 = 3 then (if a0 ≥ 1 then (some (a0, 0, 0, 1, 0, decide (a0 ≤ 14))) else (some (a0, 0, 0, 1, 0, false))) else (if a1 = 4 then (if a0 ≥ 1 then (some (a0, 0, 0, 0, 1, decide (a0 ≤ 14))) else (some (a0, 0, 0, 0, 1, false))) else (some (0, 0, 0, 0, 0, false)))))
theorem two_new42 (W : World) (a b : Array Value) (t u : TypeId) : ((W.alloc (.cells a t)).alloc (.cells b u)).heap[W.heap.size]? = some (.cells a t (0, 0)) ∧ ((W.alloc (.cells a t)).alloc (.cells b u)).heap[W.heap.size + 1]? = some (.cells b u (0, 0)) ∧ Below W.heap.size W ((W.alloc (.cells a t)).alloc (.cells b u)) :=
 ⟨blk_alloc (blk_new W _) _, by have := blk_new (W.alloc (.cells a t)) (.cells b u); simpa using this, below_alloc (below_alloc (Below.refl _ _) _) _⟩
theorem put5 {W : World} {g : Nat} {a b c d e a' b' c' d' e' : Value} {t : TypeId} (h : W.heap[g]? = some (.cells #[a, b, c, d, e] t (0, 0))) : (((((W.setCell ⟨g, 0, none⟩ a').setCell ⟨g, 1, none⟩ b').setCell ⟨g, 2, none⟩ c').setCell ⟨g, 3, none⟩ d').setCell ⟨g, 4, none⟩ e').heap[g]? = some (.cells #[a', b', c', d', e'] t (0, 0)) :=
 blk_put (cs := #[a', b', c', d', e]) (blk_put (cs := #[a', b', c', d, e]) (blk_put (cs := #[a', b', c, d, e]) (blk_put (cs := #[a', b, c, d, e]) (blk_put h 0 _ rfl) 1 _ rfl) 2 _ rfl) 3 _ rfl) 4 _ rfl
theorem below5 {B : Nat} {W0 W : World} {g : Nat} {a b c d e : Value} (h : Below B W0 W) (hg : B ≤ g) : Below B W0 (((((W.setCell ⟨g, 0, none⟩ a).setCell ⟨g, 1, none⟩ b).setCell ⟨g, 2, none⟩ c).setCell ⟨g, 3, none⟩ d).setCell ⟨g, 4, none⟩ e) := ((((h.setCell hg _).setCell hg _).setCell hg _).setCell hg _).setCell hg _
theorem info42s : (Try.prog.info? 42).map (·.size) = some 5 := by kernel_rfl
theorem stat_one_1y (op : Int) (w : World) (ho : 1 ≤ op) : Calls Try.prog 27 #[.int .i64 op, .int .i64 1] w fun e w' => e = .returned (.tuple #[.agg #[.int .i64 op, .int .i64 1, .int .i64 0, .int .i64 0, .int .i64 0], .bool (decide (op ≤ 14))]) ∧ Below w.heap.size w w' := by
 obtain ⟨h1, h2, hb⟩ := two_new42 w #[.int .i64 0, .int .i64 0, .int .i64 0, .int .i64 0, .int .i64 0] #[.int .i64 op, .int .i64 0, .int .i64 0, .int .i64 0, .int .i64 0] 42 42
 have H1 := Aside0.mk h1
 have H2 := Aside0.mk h2
 have HB := Aside0.mk hb
 have HG : Aside0 (w.heap.size ≤ w.heap.size + 1) := ⟨Nat.le_succ _⟩
 clear h1 h2 hb
 go_enter Try.func27, Try.ntmps27
 go_upto_region 2 with (fail)
 generalize (w.alloc (.cells #[.int .i64 0, .int .i64 0, .int .i64 0, .int .i64 0, .int .i64 0] 42)).alloc (.cells #[.int .i64 op, .int .i64 0, .int .i64 0, .int .i64 0, .int .i64 0] 42) = w2 at H1 H2 HB ⊢
 have HNE : Aside0 (w.heap.size ≠ w.heap.size + 1) := ⟨by omega⟩
 generalize hg2 : w.heap.size + 1 = g2 at H2 HG HNE ⊢
 generalize hg1 : w.heap.size = g1 at H1 HNE ⊢
 have cb : decide (1 ≤ op) = true := decide_eq_true ho
 have ci : (1 ≤ op) = True := eq_true ho
 have c0 : w2.cell? ⟨g2, 0, none⟩ = some (.int .i64 op) := (blk_cell H2.out 0).trans rfl
 have c1 : w2.cell? ⟨g2, 1, none⟩ = some (.int .i64 0) := (blk_cell H2.out 1).trans rfl
 have c2 : w2.cell? ⟨g2, 2, none⟩ = some (.int .i64 0) := (blk_cell H2.out 2).trans rfl
 have c3 : w2.cell? ⟨g2, 3, none⟩ = some (.int .i64 0) := (blk_cell H2.out 3).trans rfl
 have c4 : w2.cell? ⟨g2, 4, none⟩ = some (.int .i64 0) := (blk_cell H2.out 4).trans rfl
 have fc0 : w2.frozen? ⟨g2, 0, none⟩ = false := blk_frozen H2.out 0
 have fc1 : w2.frozen? ⟨g2, 1, none⟩ = false := blk_frozen H2.out 1
 have fc2 : w2.frozen? ⟨g2, 2, none⟩ = false := blk_frozen H2.out 2
 have fc3 : w2.frozen? ⟨g2, 3, none⟩ = false := blk_frozen H2.out 3
 have fc4 : w2.frozen? ⟨g2, 4, none⟩ = false := blk_frozen H2.out 4
 go_upto_region 12 with (fail)
 have H22 := Aside0.mk (blk_put H2.out 1 (.int .i64 1) (cs' := #[.int .i64 op, .int .i64 1, .int .i64 0, .int .i64 0, .int .i64 0]) rfl)
 replace H1 := Aside0.mk (blk_far H1.out (p := ⟨g2, 1, none⟩) HNE.out (.int .i64 1))
 replace HB := Aside0.mk (HB.out.setCell (p := ⟨g2, 1, none⟩) HG.out (.int .i64 1))
 clear c0 fc0 c1 fc1 c2 fc2 c3 fc3 c4 fc4 H2
 generalize w2.setCell ⟨g2, 1, none⟩ (.int .i64 1) = w3 at H1 H22 HB ⊢
 have c0 : w3.cell? ⟨g2, 0, none⟩ = some (.int .i64 op) := (blk_cell H22.out 0).trans rfl
 have c1 : w3.cell? ⟨g2, 1, none⟩ = some (.int .i64 1) := (blk_cell H22.out 1).trans rfl
 have c2 : w3.cell? ⟨g2, 2, none⟩ = some (.int .i64 0) := (blk_cell H22.out 2).trans rfl
 have c3 : w3.cell? ⟨g2, 3, none⟩ = some (.int .i64 0) := (blk_cell H22.out 3).trans rfl
 have c4 : w3.cell? ⟨g2, 4, none⟩ = some (.int .i64 0) := (blk_cell H22.out 4).trans rfl
 have fc0 : w3.frozen? ⟨g2, 0, none⟩ = false := blk_frozen H22.out 0
 have fc1 : w3.frozen? ⟨g2, 1, none⟩ = false := blk_frozen H22.out 1
 have fc2 : w3.frozen? ⟨g2, 2, none⟩ = false := blk_frozen H22.out 2
 have fc3 : w3.frozen? ⟨g2, 3, none⟩ = false := blk_frozen H22.out 3
 have fc4 : w3.frozen? ⟨g2, 4, none⟩ = false := blk_frozen H22.out 4
 have d0 : w3.cell? ⟨g1, 0, none⟩ = some (.int .i64 0) := (blk_cell H1.out 0).trans rfl
 have d1 : w3.cell? ⟨g1, 1, none⟩ = some (.int .i64 0) := (blk_cell H1.out 1).trans rfl
 have d2 : w3.cell? ⟨g1, 2, none⟩ = some (.int .i64 0) := (blk_cell H1.out 2).trans rfl
 have d3 : w3.cell? ⟨g1, 3, none⟩ = some (.int .i64 0) := (blk_cell H1.out 3).trans rfl
 have d4 : w3.cell? ⟨g1, 4, none⟩ = some (.int .i64 0) := (blk_cell H1.out 4).trans rfl
 have fd0 : w3.frozen? ⟨g1, 0, none⟩ = false := blk_frozen H1.out 0
 have fd1 : w3.frozen? ⟨g1, 1, none⟩ = false := blk_frozen H1.out 1
 have fd2 : w3.frozen? ⟨g1, 2, none⟩ = false := blk_frozen H1.out 2
 have fd3 : w3.frozen? ⟨g1, 3, none⟩ = false := blk_frozen H1.out 3
 have fd4 : w3.frozen? ⟨g1, 4, none⟩ = false := blk_frozen H1.out 4
 go_wp2
 refine bodyPost_ret (results_ct rfl _ _ g1 42 #[.int .i64 op, .int .i64 1, .int .i64 0, .int .i64 0, .int .i64 0] (0, 0) _ rfl (put5 H1.out) Try.underlying42 rfl info42s) rfl ?_
 subst hg1
 exact ⟨rfl, below5 HB.out (Nat.le_refl _)⟩
theorem stat_one_1n (op : Int) (w : World) (ho : ¬ 1 ≤ op) : Calls Try.prog 27 #[.int .i64 op, .int .i64 1] w fun e w' => e = .returned (.tuple #[.agg #[.int .i64 op, .int .i64 1, .int .i64 0, .int .i64 0, .int .i64 0], .bool (false)]) ∧ Below w.heap.size w w' := by
 obtain ⟨h1, h2, hb⟩ := two_new42 w #[.int .i64 0, .int .i64 0, .int .i64 0, .int .i64 0, .int .i64 0] #[.int .i64 op, .int .i64 0, .int .i64 0, .int .i64 0, .int .i64 0] 42 42
 have H1 := Aside0.mk h1
 have H2 := Aside0.mk h2
 have HB := Aside0.mk hb
 have HG : Aside0 (w.heap.size ≤ w.heap.size + 1) := ⟨Nat.le_succ _⟩
 clear h1 h2 hb
 go_enter Try.func27, Try.ntmps27
 go_upto_region 2 with (fail)
 generalize (w.alloc (.cells #[.int .i64 0, .int .i64 0, .int .i64 0, .int .i64 0, .int .i64 0] 42)).alloc (.cells #[.int .i64 op, .int .i64 0, .int .i64 0, .int .i64 0, .int .i64 0] 42) = w2 at H1 H2 HB ⊢
 have HNE : Aside0 (w.heap.size ≠ w.heap.size + 1) := ⟨by omega⟩
 generalize hg2 : w.heap.size + 1 = g2 at H2 HG HNE ⊢
 generalize hg1 : w.heap.size = g1 at H1 HNE ⊢
 have cb : decide (1 ≤ op) = false := decide_eq_false ho
 have ci : (1 ≤ op) = False := eq_false ho
 have c0 : w2.cell? ⟨g2, 0, none⟩ = some (.int .i64 op) := (blk_cell H2.out 0).trans rfl
 have c1 : w2.cell? ⟨g2, 1, none⟩ = some (.int .i64 0) := (blk_cell H2.out 1).trans rfl
 have c2 : w2.cell? ⟨g2, 2, none⟩ = some (.int .i64 0) := (blk_cell H2.out 2).trans rfl
 have c3 : w2.cell? ⟨g2, 3, none⟩ = some (.int .i64 0) := (blk_cell H2.out 3).trans rfl
 have c4 : w2.cell? ⟨g2, 4, none⟩ = some (.int .i64 0) := (blk_cell H2.out 4).trans rfl
 have fc0 : w2.frozen? ⟨g2, 0, none⟩ = false := blk_frozen H2.out 0
 have fc1 : w2.frozen? ⟨g2, 1, none⟩ = false := blk_frozen H2.out 1
 have fc2 : w2.frozen? ⟨g2, 2, none⟩ = false := blk_frozen H2.out 2
 have fc3 : w2.frozen? ⟨g2, 3, none⟩ = false := blk_frozen H2.out 3
 have fc4 : w2.frozen? ⟨g2, 4, none⟩ = false := blk_frozen H2.out 4
 go_upto_region 12 with (fail)
 have H22 := Aside0.mk (blk_put H2.out 1 (.int .i64 1) (cs' := #[.int .i64 op, .int .i64 1, .int .i64 0, .int .i64 0, .int .i64 0]) rfl)
 replace H1 := Aside0.mk (blk_far H1.out (p := ⟨g2, 1, none⟩) HNE.out (.int .i64 1))
 replace HB := Aside0.mk (HB.out.setCell (p := ⟨g2, 1, none⟩) HG.out (.int .i64 1))
 clear c0 fc0 c1 fc1 c2 fc2 c3 fc3 c4 fc4 H2
 generalize w2.setCell ⟨g2, 1, none⟩ (.int .i64 1) = w3 at H1 H22 HB ⊢
 have c0 : w3.cell? ⟨g2, 0, none⟩ = some (.int .i64 op) := (blk_cell H22.out 0).trans rfl
 have c1 : w3.cell? ⟨g2, 1, none⟩ = some (.int .i64 1) := (blk_cell H22.out 1).trans rfl
 have c2 : w3.cell? ⟨g2, 2, none⟩ = some (.int .i64 0) := (blk_cell H22.out 2).trans rfl
 have c3 : w3.cell? ⟨g2, 3, none⟩ = some (.int .i64 0) := (blk_cell H22.out 3).trans rfl
 have c4 : w3.cell? ⟨g2, 4, none⟩ = some (.int .i64 0) := (blk_cell H22.out 4).trans rfl
 have fc0 : w3.frozen? ⟨g2, 0, none⟩ = false := blk_frozen H22.out 0
 have fc1 : w3.frozen? ⟨g2, 1, none⟩ = false := blk_frozen H22.out 1
 have fc2 : w3.frozen? ⟨g2, 2, none⟩ = false := blk_frozen H22.out 2
 have fc3 : w3.frozen? ⟨g2, 3, none⟩ = false := blk_frozen H22.out 3
 have fc4 : w3.frozen? ⟨g2, 4, none⟩ = false := blk_frozen H22.out 4
 have d0 : w3.cell? ⟨g1, 0, none⟩ = some (.int .i64 0) := (blk_cell H1.out 0).trans rfl
 have d1 : w3.cell? ⟨g1, 1, none⟩ = some (.int .i64 0) := (blk_cell H1.out 1).trans rfl
 have d2 : w3.cell? ⟨g1, 2, none⟩ = some (.int .i64 0) := (blk_cell H1.out 2).trans rfl
 have d3 : w3.cell? ⟨g1, 3, none⟩ = some (.int .i64 0) := (blk_cell H1.out 3).trans rfl
 have d4 : w3.cell? ⟨g1, 4, none⟩ = some (.int .i64 0) := (blk_cell H1.out 4).trans rfl
 have fd0 : w3.frozen? ⟨g1, 0, none⟩ = false := blk_frozen H1.out 0
 have fd1 : w3.frozen? ⟨g1, 1, none⟩ = false := blk_frozen H1.out 1
 have fd2 : w3.frozen? ⟨g1, 2, none⟩ = false := blk_frozen H1.out 2
 have fd3 : w3.frozen? ⟨g1, 3, none⟩ = false := blk_frozen H1.out 3
 have fd4 : w3.frozen? ⟨g1, 4, none⟩ = false := blk_frozen H1.out 4
 go_wp2
 refine bodyPost_ret (results_ct rfl _ _ g1 42 #[.int .i64 op, .int .i64 1, .int .i64 0, .int .i64 0, .int .i64 0] (0, 0) _ rfl (put5 H1.out) Try.underlying42 rfl info42s) rfl ?_
 subst hg1
 exact ⟨rfl, below5 HB.out (Nat.le_refl _)⟩
theorem stat_one_2y (op : Int) (w : World) (ho : 1 ≤ op) : Calls Try.prog 27 #[.int .i64 op, .int .i64 2] w fun e w' => e = .returned (.tuple #[.agg #[.int .i64 op, .int .i64 0, .int .i64 1, .int .i64 0, .int .i64 0], .bool (decide (op ≤ 14))]) ∧ Below w.heap.size w w' := by
 obtain ⟨h1, h2, hb⟩ := two_new42 w #[.int .i64 0, .int .i64 0, .int .i64 0, .int .i64 0, .int .i64 0] #[.int .i64 op, .int .i64 0, .int .i64 0, .int .i64 0, .int .i64 0] 42 42
 have H1 := Aside0.mk h1
 have H2 := Aside0.mk h2
 have HB := Aside0.mk hb
 have HG : Aside0 (w.heap.size ≤ w.heap.size + 1) := ⟨Nat.le_succ _⟩
 clear h1 h2 hb
 go_enter Try.func27, Try.ntmps27
 go_upto_region 2 with (fail)
 generalize (w.alloc (.cells #[.int .i64 0, .int .i64 0, .int .i64 0, .int .i64 0, .int .i64 0] 42)).alloc (.cells #[.int .i64 op, .int .i64 0, .int .i64 0, .int .i64 0, .int .i64 0] 42) = w2 at H1 H2 HB ⊢
 have HNE : Aside0 (w.heap.size ≠ w.heap.size + 1) := ⟨by omega⟩
 generalize hg2 : w.heap.size + 1 = g2 at H2 HG HNE ⊢
 generalize hg1 : w.heap.size = g1 at H1 HNE ⊢
 have cb : decide (1 ≤ op) = true := decide_eq_true ho
 have ci : (1 ≤ op) = True := eq_true ho
 have c0 : w2.cell? ⟨g2, 0, none⟩ = some (.int .i64 op) := (blk_cell H2.out 0).trans rfl
 have c1 : w2.cell? ⟨g2, 1, none⟩ = some (.int .i64 0) := (blk_cell H2.out 1).trans rfl
 have c2 : w2.cell? ⟨g2, 2, none⟩ = some (.int .i64 0) := (blk_cell H2.out 2).trans rfl
 have c3 : w2.cell? ⟨g2, 3, none⟩ = some (.int .i64 0) := (blk_cell H2.out 3).trans rfl
 have c4 : w2.cell? ⟨g2, 4, none⟩ = some (.int .i64 0) := (blk_cell H2.out 4).trans rfl
 have fc0 : w2.frozen? ⟨g2, 0, none⟩ = false := blk_frozen H2.out 0
 have fc1 : w2.frozen? ⟨g2, 1, none⟩ = false := blk_frozen H2.out 1
 have fc2 : w2.frozen? ⟨g2, 2, none⟩ = false := blk_frozen H2.out 2
 have fc3 : w2.frozen? ⟨g2, 3, none⟩ = false := blk_frozen H2.out 3
 have fc4 : w2.frozen? ⟨g2, 4, none⟩ = false := blk_frozen H2.out 4
 go_upto_region 12 with (fail)
 have H22 := Aside0.mk (blk_put H2.out 2 (.int .i64 1) (cs' := #[.int .i64 op, .int .i64 0, .int .i64 1, .int .i64 0, .int .i64 0]) rfl)
 replace H1 := Aside0.mk (blk_far H1.out (p := ⟨g2, 2, none⟩) HNE.out (.int .i64 1))
 replace HB := Aside0.mk (HB.out.setCell (p := ⟨g2, 2, none⟩) HG.out (.int .i64 1))
 clear c0 fc0 c1 fc1 c2 fc2 c3 fc3 c4 fc4 H2
 generalize w2.setCell ⟨g2, 2, none⟩ (.int .i64 1) = w3 at H1 H22 HB ⊢
 have c0 : w3.cell? ⟨g2, 0, none⟩ = some (.int .i64 op) := (blk_cell H22.out 0).trans rfl
 have c1 : w3.cell? ⟨g2, 1, none⟩ = some (.int .i64 0) := (blk_cell H22.out 1).trans rfl
 have c2 : w3.cell? ⟨g2, 2, none⟩ = some (.int .i64 1) := (blk_cell H22.out 2).trans rfl
 have c3 : w3.cell? ⟨g2, 3, none⟩ = some (.int .i64 0) := (blk_cell H22.out 3).trans rfl
 have c4 : w3.cell? ⟨g2, 4, none⟩ = some (.int .i64 0) := (blk_cell H22.out 4).trans rfl
 have fc0 : w3.frozen? ⟨g2, 0, none⟩ = false := blk_frozen H22.out 0
 have fc1 : w3.frozen? ⟨g2, 1, none⟩ = false := blk_frozen H22.out 1
 have fc2 : w3.frozen? ⟨g2, 2, none⟩ = false := blk_frozen H22.out 2
 have fc3 : w3.frozen? ⟨g2, 3, none⟩ = false := blk_frozen H22.out 3
 have fc4 : w3.frozen? ⟨g2, 4, none⟩ = false := blk_frozen H22.out 4
 have d0 : w3.cell? ⟨g1, 0, none⟩ = some (.int .i64 0) := (blk_cell H1.out 0).trans rfl
 have d1 : w3.cell? ⟨g1, 1, none⟩ = some (.int .i64 0) := (blk_cell H1.out 1).trans rfl
 have d2 : w3.cell? ⟨g1, 2, none⟩ = some (.int .i64 0) := (blk_cell H1.out 2).trans rfl
 have d3 : w3.cell? ⟨g1, 3, none⟩ = some (.int .i64 0) := (blk_cell H1.out 3).trans rfl
 have d4 : w3.cell? ⟨g1, 4, none⟩ = some (.int .i64 0) := (blk_cell H1.out 4).trans rfl
 have fd0 : w3.frozen? ⟨g1, 0, none⟩ = false := blk_frozen H1.out 0
 have fd1 : w3.frozen? ⟨g1, 1, none⟩ = false := blk_frozen H1.out 1
 have fd2 : w3.frozen? ⟨g1, 2, none⟩ = false := blk_frozen H1.out 2
 have fd3 : w3.frozen? ⟨g1, 3, none⟩ = false := blk_frozen H1.out 3
 have fd4 : w3.frozen? ⟨g1, 4, none⟩ = false := blk_frozen H1.out 4
 go_wp2
 refine bodyPost_ret (results_ct rfl _ _ g1 42 #[.int .i64 op, .int .i64 0, .int .i64 1, .int .i64 0, .int .i64 0] (0, 0) _ rfl (put5 H1.out) Try.underlying42 rfl info42s) rfl ?_
 subst hg1
 exact ⟨rfl, below5 HB.out (Nat.le_refl _)⟩
theorem stat_one_2n (op : Int) (w : World) (ho : ¬ 1 ≤ op) : Calls Try.prog 27 #[.int .i64 op, .int .i64 2] w fun e w' => e = .returned (.tuple #[.agg #[.int .i64 op, .int .i64 0, .int .i64 1, .int .i64 0, .int .i64 0], .bool (false)]) ∧ Below w.heap.size w w' := by
 obtain ⟨h1, h2, hb⟩ := two_new42 w #[.int .i64 0, .int .i64 0, .int .i64 0, .int .i64 0, .int .i64 0] #[.int .i64 op, .int .i64 0, .int .i64 0, .int .i64 0, .int .i64 0] 42 42
 have H1 := Aside0.mk h1
 have H2 := Aside0.mk h2
 have HB := Aside0.mk hb
 have HG : Aside0 (w.heap.size ≤ w.heap.size + 1) := ⟨Nat.le_succ _⟩
 clear h1 h2 hb
 go_enter Try.func27, Try.ntmps27
 go_upto_region 2 with (fail)
 generalize (w.alloc (.cells #[.int .i64 0, .int .i64 0, .int .i64 0, .int .i64 0, .int .i64 0] 42)).alloc (.cells #[.int .i64 op, .int .i64 0, .int .i64 0, .int .i64 0, .int .i64 0] 42) = w2 at H1 H2 HB ⊢
 have HNE : Aside0 (w.heap.size ≠ w.heap.size + 1) := ⟨by omega⟩
 generalize hg2 : w.heap.size + 1 = g2 at H2 HG HNE ⊢
 generalize hg1 : w.heap.size = g1 at H1 HNE ⊢
 have cb : decide (1 ≤ op) = false := decide_eq_false ho
 have ci : (1 ≤ op) = False := eq_false ho
 have c0 : w2.cell? ⟨g2, 0, none⟩ = some (.int .i64 op) := (blk_cell H2.out 0).trans rfl
 have c1 : w2.cell? ⟨g2, 1, none⟩ = some (.int .i64 0) := (blk_cell H2.out 1).trans rfl
 have c2 : w2.cell? ⟨g2, 2, none⟩ = some (.int .i64 0) := (blk_cell H2.out 2).trans rfl
 have c3 : w2.cell? ⟨g2, 3, none⟩ = some (.int .i64 0) := (blk_cell H2.out 3).trans rfl
 have c4 : w2.cell? ⟨g2, 4, none⟩ = some (.int .i64 0) := (blk_cell H2.out 4).trans rfl
 have fc0 : w2.frozen? ⟨g2, 0, none⟩ = false := blk_frozen H2.out 0
 have fc1 : w2.frozen? ⟨g2, 1, none⟩ = false := blk_frozen H2.out 1
 have fc2 : w2.frozen? ⟨g2, 2, none⟩ = false := blk_frozen H2.out 2
 have fc3 : w2.frozen? ⟨g2, 3, none⟩ = false := blk_frozen H2.out 3
 have fc4 : w2.frozen? ⟨g2, 4, none⟩ = false := blk_frozen H2.out 4
 go_upto_region 12 with (fail)
 have H22 := Aside0.mk (blk_put H2.out 2 (.int .i64 1) (cs' := #[.int .i64 op, .int .i64 0, .int .i64 1, .int .i64 0, .int .i64 0]) rfl)
 replace H1 := Aside0.mk (blk_far H1.out (p := ⟨g2, 2, none⟩) HNE.out (.int .i64 1))
 replace HB := Aside0.mk (HB.out.setCell (p := ⟨g2, 2, none⟩) HG.out (.int .i64 1))
 clear c0 fc0 c1 fc1 c2 fc2 c3 fc3 c4 fc4 H2
 generalize w2.setCell ⟨g2, 2, none⟩ (.int .i64 1) = w3 at H1 H22 HB ⊢
 have c0 : w3.cell? ⟨g2, 0, none⟩ = some (.int .i64 op) := (blk_cell H22.out 0).trans rfl
 have c1 : w3.cell? ⟨g2, 1, none⟩ = some (.int .i64 0) := (blk_cell H22.out 1).trans rfl
 have c2 : w3.cell? ⟨g2, 2, none⟩ = some (.int .i64 1) := (blk_cell H22.out 2).trans rfl
 have c3 : w3.cell? ⟨g2, 3, none⟩ = some (.int .i64 0) := (blk_cell H22.out 3).trans rfl
 have c4 : w3.cell? ⟨g2, 4, none⟩ = some (.int .i64 0) := (blk_cell H22.out 4).trans rfl
 have fc0 : w3.frozen? ⟨g2, 0, none⟩ = false := blk_frozen H22.out 0
 have fc1 : w3.frozen? ⟨g2, 1, none⟩ = false := blk_frozen H22.out 1
 have fc2 : w3.frozen? ⟨g2, 2, none⟩ = false := blk_frozen H22.out 2
 have fc3 : w3.frozen? ⟨g2, 3, none⟩ = false := blk_frozen H22.out 3
 have fc4 : w3.frozen? ⟨g2, 4, none⟩ = false := blk_frozen H22.out 4
 have d0 : w3.cell? ⟨g1, 0, none⟩ = some (.int .i64 0) := (blk_cell H1.out 0).trans rfl
 have d1 : w3.cell? ⟨g1, 1, none⟩ = some (.int .i64 0) := (blk_cell H1.out 1).trans rfl
 have d2 : w3.cell? ⟨g1, 2, none⟩ = some (.int .i64 0) := (blk_cell H1.out 2).trans rfl
 have d3 : w3.cell? ⟨g1, 3, none⟩ = some (.int .i64 0) := (blk_cell H1.out 3).trans rfl
 have d4 : w3.cell? ⟨g1, 4, none⟩ = some (.int .i64 0) := (blk_cell H1.out 4).trans rfl
 have fd0 : w3.frozen? ⟨g1, 0, none⟩ = false := blk_frozen H1.out 0
 have fd1 : w3.frozen? ⟨g1, 1, none⟩ = false := blk_frozen H1.out 1
 have fd2 : w3.frozen? ⟨g1, 2, none⟩ = false := blk_frozen H1.out 2
 have fd3 : w3.frozen? ⟨g1, 3, none⟩ = false := blk_frozen H1.out 3
 have fd4 : w3.frozen? ⟨g1, 4, none⟩ = false := blk_frozen H1.out 4
 go_wp2
 refine bodyPost_ret (results_ct rfl _ _ g1 42 #[.int .i64 op, .int .i64 0, .int .i64 1, .int .i64 0, .int .i64 0] (0, 0) _ rfl (put5 H1.out) Try.underlying42 rfl info42s) rfl ?_
 subst hg1
 exact ⟨rfl, below5 HB.out (Nat.le_refl _)⟩
theorem stat_one_3y (op : Int) (w : World) (ho : 1 ≤ op) : Calls Try.prog 27 #[.int .i64 op, .int .i64 3] w fun e w' => e = .returned (.tuple #[.agg #[.int .i64 op, .int .i64 0, .int .i64 0, .int .i64 1, .int .i64 0], .bool (decide (op ≤ 14))]) ∧ Below w.heap.size w w' := by
 obtain ⟨h1, h2, hb⟩ := two_new42 w #[.int .i64 0, .int .i64 0, .int .i64 0, .int .i64 0, .int .i64 0] #[.int .i64 op, .int .i64 0, .int .i64 0, .int .i64 0, .int .i64 0] 42 42
 have H1 := Aside0.mk h1
 have H2 := Aside0.mk h2
 have HB := Aside0.mk hb
 have HG : Aside0 (w.heap.size ≤ w.heap.size + 1) := ⟨Nat.le_succ _⟩
 clear h1 h2 hb
 go_enter Try.func27, Try.ntmps27
 go_upto_region 2 with (fail)
 generalize (w.alloc (.cells #[.int .i64 0, .int .i64 0, .int .i64 0, .int .i64 0, .int .i64 0] 42)).alloc (.cells #[.int .i64 op, .int .i64 0, .int .i64 0, .int .i64 0, .int .i64 0] 42) = w2 at H1 H2 HB ⊢
 have HNE : Aside0 (w.heap.size ≠ w.heap.size + 1) := ⟨by omega⟩
 generalize hg2 : w.heap.size + 1 = g2 at H2 HG HNE ⊢
 generalize hg1 : w.heap.size = g1 at H1 HNE ⊢
 have cb : decide (1 ≤ op) = true := decide_eq_true ho
 have ci : (1 ≤ op) = True := eq_true ho
 have c0 : w2.cell? ⟨g2, 0, none⟩ = some (.int .i64 op) := (blk_cell H2.out 0).trans rfl
 have c1 : w2.cell? ⟨g2, 1, none⟩ = some (.int .i64 0) := (blk_cell H2.out 1).trans rfl
 have c2 : w2.cell? ⟨g2, 2, none⟩ = some (.int .i64 0) := (blk_cell H2.out 2).trans rfl
 have c3 : w2.cell? ⟨g2, 3, none⟩ = some (.int .i64 0) := (blk_cell H2.out 3).trans rfl
 have c4 : w2.cell? ⟨g2, 4, none⟩ = some (.int .i64 0) := (blk_cell H2.out 4).trans rfl
 have fc0 : w2.frozen? ⟨g2, 0, none⟩ = false := blk_frozen H2.out 0
 have fc1 : w2.frozen? ⟨g2, 1, none⟩ = false := blk_frozen H2.out 1
 have fc2 : w2.frozen? ⟨g2, 2, none⟩ = false := blk_frozen H2.out 2
 have fc3 : w2.frozen? ⟨g2, 3, none⟩ = false := blk_frozen H2.out 3
 have fc4 : w2.frozen? ⟨g2, 4, none⟩ = false := blk_frozen H2.out 4
 go_upto_region 12 with (fail)
 have H22 := Aside0.mk (blk_put H2.out 3 (.int .i64 1) (cs' := #[.int .i64 op, .int .i64 0, .int .i64 0, .int .i64 1, .int .i64 0]) rfl)
 replace H1 := Aside0.mk (blk_far H1.out (p := ⟨g2, 3, none⟩) HNE.out (.int .i64 1))
 replace HB := Aside0.mk (HB.out.setCell (p := ⟨g2, 3, none⟩) HG.out (.int .i64 1))
 clear c0 fc0 c1 fc1 c2 fc2 c3 fc3 c4 fc4 H2
 generalize w2.setCell ⟨g2, 3, none⟩ (.int .i64 1) = w3 at H1 H22 HB ⊢
 have c0 : w3.cell? ⟨g2, 0, none⟩ = some (.int .i64 op) := (blk_cell H22.out 0).trans rfl
 have c1 : w3.cell? ⟨g2, 1, none⟩ = some (.int .i64 0) := (blk_cell H22.out 1).trans rfl
 have c2 : w3.cell? ⟨g2, 2, none⟩ = some (.int .i64 0) := (blk_cell H22.out 2).trans rfl
 have c3 : w3.cell? ⟨g2, 3, none⟩ = some (.int .i64 1) := (blk_cell H22.out 3).trans rfl
 have c4 : w3.cell? ⟨g2, 4, none⟩ = some (.int .i64 0) := (blk_cell H22.out 4).trans rfl
 have fc0 : w3.frozen? ⟨g2, 0, none⟩ = false := blk_frozen H22.out 0
 have fc1 : w3.frozen? ⟨g2, 1, none⟩ = false := blk_frozen H22.out 1
 have fc2 : w3.frozen? ⟨g2, 2, none⟩ = false := blk_frozen H22.out 2
 have fc3 : w3.frozen? ⟨g2, 3, none⟩ = false := blk_frozen H22.out 3
 have fc4 : w3.frozen? ⟨g2, 4, none⟩ = false := blk_frozen H22.out 4
 have d0 : w3.cell? ⟨g1, 0, none⟩ = some (.int .i64 0) := (blk_cell H1.out 0).trans rfl
 have d1 : w3.cell? ⟨g1, 1, none⟩ = some (.int .i64 0) := (blk_cell H1.out 1).trans rfl
 have d2 : w3.cell? ⟨g1, 2, none⟩ = some (.int .i64 0) := (blk_cell H1.out 2).trans rfl
 have d3 : w3.cell? ⟨g1, 3, none⟩ = some (.int .i64 0) := (blk_cell H1.out 3).trans rfl
 have d4 : w3.cell? ⟨g1, 4, none⟩ = some (.int .i64 0) := (blk_cell H1.out 4).trans rfl
 have fd0 : w3.frozen? ⟨g1, 0, none⟩ = false := blk_frozen H1.out 0
 have fd1 : w3.frozen? ⟨g1, 1, none⟩ = false := blk_frozen H1.out 1
 have fd2 : w3.frozen? ⟨g1, 2, none⟩ = false := blk_frozen H1.out 2
 have fd3 : w3.frozen? ⟨g1, 3, none⟩ = false := blk_frozen H1.out 3
 have fd4 : w3.frozen? ⟨g1, 4, none⟩ = false := blk_frozen H1.out 4
 go_wp2
 refine bodyPost_ret (results_ct rfl _ _ g1 42 #[.int .i64 op, .int .i64 0, .int .i64 0, .int .i64 1, .int .i64 0] (0, 0) _ rfl (put5 H1.out) Try.underlying42 rfl info42s) rfl ?_
 subst hg1
 exact ⟨rfl, below5 HB.out (Nat.le_refl _)⟩
theorem stat_one_3n (op : Int) (w : World) (ho : ¬ 1 ≤ op) : Calls Try.prog 27 #[.int .i64 op, .int .i64 3] w fun e w' => e = .returned (.tuple #[.agg #[.int .i64 op, .int .i64 0, .int .i64 0, .int .i64 1, .int .i64 0], .bool (false)]) ∧ Below w.heap.size w w' := by
 obtain ⟨h1, h2, hb⟩ := two_new42 w #[.int .i64 0, .int .i64 0, .int .i64 0, .int .i64 0, .int .i64 0] #[.int .i64 op, .int .i64 0, .int .i64 0, .int .i64 0, .int .i64 0] 42 42
 have H1 := Aside0.mk h1
 have H2 := Aside0.mk h2
 have HB := Aside0.mk hb
 have HG : Aside0 (w.heap.size ≤ w.heap.size + 1) := ⟨Nat.le_succ _⟩
 clear h1 h2 hb
 go_enter Try.func27, Try.ntmps27
 go_upto_region 2 with (fail)
 generalize (w.alloc (.cells #[.int .i64 0, .int .i64 0, .int .i64 0, .int .i64 0, .int .i64 0] 42)).alloc (.cells #[.int .i64 op, .int .i64 0, .int .i64 0, .int .i64 0, .int .i64 0] 42) = w2 at H1 H2 HB ⊢
 have HNE : Aside0 (w.heap.size ≠ w.heap.size + 1) := ⟨by omega⟩
 generalize hg2 : w.heap.size + 1 = g2 at H2 HG HNE ⊢
 generalize hg1 : w.heap.size = g1 at H1 HNE ⊢
 have cb : decide (1 ≤ op) = false := decide_eq_false ho
 have ci : (1 ≤ op) = False := eq_false ho
 have c0 : w2.cell? ⟨g2, 0, none⟩ = some (.int .i64 op) := (blk_cell H2.out 0).trans rfl
 have c1 : w2.cell? ⟨g2, 1, none⟩ = some (.int .i64 0) := (blk_cell H2.out 1).trans rfl
 have c2 : w2.cell? ⟨g2, 2, none⟩ = some (.int .i64 0) := (blk_cell H2.out 2).trans rfl
 have c3 : w2.cell? ⟨g2, 3, none⟩ = some (.int .i64 0) := (blk_cell H2.out 3).trans rfl
 have c4 : w2.cell? ⟨g2, 4, none⟩ = some (.int .i64 0) := (blk_cell H2.out 4).trans rfl
 have fc0 : w2.frozen? ⟨g2, 0, none⟩ = false := blk_frozen H2.out 0
 have fc1 : w2.frozen? ⟨g2, 1, none⟩ = false := blk_frozen H2.out 1
 have fc2 : w2.frozen? ⟨g2, 2, none⟩ = false := blk_frozen H2.out 2
 have fc3 : w2.frozen? ⟨g2, 3, none⟩ = false := blk_frozen H2.out 3
 have fc4 : w2.frozen? ⟨g2, 4, none⟩ = false := blk_frozen H2.out 4
 go_upto_region 12 with (fail)
 have H22 := Aside0.mk (blk_put H2.out 3 (.int .i64 1) (cs' := #[.int .i64 op, .int .i64 0, .int .i64 0, .int .i64 1, .int .i64 0]) rfl)
 replace H1 := Aside0.mk (blk_far H1.out (p := ⟨g2, 3, none⟩) HNE.out (.int .i64 1))
 replace HB := Aside0.mk (HB.out.setCell (p := ⟨g2, 3, none⟩) HG.out (.int .i64 1))
 clear c0 fc0 c1 fc1 c2 fc2 c3 fc3 c4 fc4 H2
 generalize w2.setCell ⟨g2, 3, none⟩ (.int .i64 1) = w3 at H1 H22 HB ⊢
 have c0 : w3.cell? ⟨g2, 0, none⟩ = some (.int .i64 op) := (blk_cell H22.out 0).trans rfl
 have c1 : w3.cell? ⟨g2, 1, none⟩ = some (.int .i64 0) := (blk_cell H22.out 1).trans rfl
 have c2 : w3.cell? ⟨g2, 2, none⟩ = some (.int .i64 0) := (blk_cell H22.out 2).trans rfl
 have c3 : w3.cell? ⟨g2, 3, none⟩ = some (.int .i64 1) := (blk_cell H22.out 3).trans rfl
 have c4 : w3.cell? ⟨g2, 4, none⟩ = some (.int .i64 0) := (blk_cell H22.out 4).trans rfl
 have fc0 : w3.frozen? ⟨g2, 0, none⟩ = false := blk_frozen H22.out 0
 have fc1 : w3.frozen? ⟨g2, 1, none⟩ = false := blk_frozen H22.out 1
 have fc2 : w3.frozen? ⟨g2, 2, none⟩ = false := blk_frozen H22.out 2
 have fc3 : w3.frozen? ⟨g2, 3, none⟩ = false := blk_frozen H22.out 3
 have fc4 : w3.frozen? ⟨g2, 4, none⟩ = false := blk_frozen H22.out 4
 have d0 : w3.cell? ⟨g1, 0, none⟩ = some (.int .i64 0) := (blk_cell H1.out 0).trans rfl
 have d1 : w3.cell? ⟨g1, 1, none⟩ = some (.int .i64 0) := (blk_cell H1.out 1).trans rfl
 have d2 : w3.cell? ⟨g1, 2, none⟩ = some (.int .i64 0) := (blk_cell H1.out 2).trans rfl
 have d3 : w3.cell? ⟨g1, 3, none⟩ = some (.int .i64 0) := (blk_cell H1.out 3).trans rfl
 have d4 : w3.cell? ⟨g1, 4, none⟩ = some (.int .i64 0) := (blk_cell H1.out 4).trans rfl
 have fd0 : w3.frozen? ⟨g1, 0, none⟩ = false := blk_frozen H1.out 0
 have fd1 : w3.frozen? ⟨g1, 1, none⟩ = false := blk_frozen H1.out 1
 have fd2 : w3.frozen? ⟨g1, 2, none⟩ = false := blk_frozen H1.out 2
 have fd3 : w3.frozen? ⟨g1, 3, none⟩ = false := blk_frozen H1.out 3
 have fd4 : w3.frozen? ⟨g1, 4, none⟩ = false := blk_frozen H1.out 4
 go_wp2
 refine bodyPost_ret (results_ct rfl _ _ g1 42 #[.int .i64 op, .int .i64 0, .int .i64 0, .int .i64 1, .int .i64 0] (0, 0) _ rfl (put5 H1.out) Try.underlying42 rfl info42s) rfl ?_
 subst hg1
 exact ⟨rfl, below5 HB.out (Nat.le_refl _)⟩
theorem stat_one_4y (op : Int) (w : World) (ho : 1 ≤ op) : Calls Try.prog 27 #[.int .i64 op, .int .i64 4] w fun e w' => e = .returned (.tuple #[.agg #[.int .i64 op, .int .i64 0, .int .i64 0, .int .i64 0, .int .i64 1], .bool (decide (op ≤ 14))]) ∧ Below w.heap.size w w' := by
 obtain ⟨h1, h2, hb⟩ := two_new42 w #[.int .i64 0, .int .i64 0, .int .i64 0, .int .i64 0, .int .i64 0] #[.int .i64 op, .int .i64 0, .int .i64 0, .int .i64 0, .int .i64 0] 42 42
 have H1 := Aside0.mk h1
 have H2 := Aside0.mk h2
 have HB := Aside0.mk hb
 have HG : Aside0 (w.heap.size ≤ w.heap.size + 1) := ⟨Nat.le_succ _⟩
 clear h1 h2 hb
 go_enter Try.func27, Try.ntmps27
 go_upto_region 2 with (fail)
 generalize (w.alloc (.cells #[.int .i64 0, .int .i64 0, .int .i64 0, .int .i64 0, .int .i64 0] 42)).alloc (.cells #[.int .i64 op, .int .i64 0, .int .i64 0, .int .i64 0, .int .i64 0] 42) = w2 at H1 H2 HB ⊢
 have HNE : Aside0 (w.heap.size ≠ w.heap.size + 1) := ⟨by omega⟩
 generalize hg2 : w.heap.size + 1 = g2 at H2 HG HNE ⊢
 generalize hg1 : w.heap.size = g1 at H1 HNE ⊢
 have cb : decide (1 ≤ op) = true := decide_eq_true ho
 have ci : (1 ≤ op) = True := eq_true ho
 have c0 : w2.cell? ⟨g2, 0, none⟩ = some (.int .i64 op) := (blk_cell H2.out 0).trans rfl
 have c1 : w2.cell? ⟨g2, 1, none⟩ = some (.int .i64 0) := (blk_cell H2.out 1).trans rfl
 have c2 : w2.cell? ⟨g2, 2, none⟩ = some (.int .i64 0) := (blk_cell H2.out 2).trans rfl
 have c3 : w2.cell? ⟨g2, 3, none⟩ = some (.int .i64 0) := (blk_cell H2.out 3).trans rfl
 have c4 : w2.cell? ⟨g2, 4, none⟩ = some (.int .i64 0) := (blk_cell H2.out 4).trans rfl
 have fc0 : w2.frozen? ⟨g2, 0, none⟩ = false := blk_frozen H2.out 0
 have fc1 : w2.frozen? ⟨g2, 1, none⟩ = false := blk_frozen H2.out 1
 have fc2 : w2.frozen? ⟨g2, 2, none⟩ = false := blk_frozen H2.out 2
 have fc3 : w2.frozen? ⟨g2, 3, none⟩ = false := blk_frozen H2.out 3
 have fc4 : w2.frozen? ⟨g2, 4, none⟩ = false := blk_frozen H2.out 4
 go_upto_region 12 with (fail)
 have H22 := Aside0.mk (blk_put H2.out 4 (.int .i64 1) (cs' := #[.int .i64 op, .int .i64 0, .int .i64 0, .int .i64 0, .int .i64 1]) rfl)
 replace H1 := Aside0.mk (blk_far H1.out (p := ⟨g2, 4, none⟩) HNE.out (.int .i64 1))
 replace HB := Aside0.mk (HB.out.setCell (p := ⟨g2, 4, none⟩) HG.out (.int .i64 1))
 clear c0 fc0 c1 fc1 c2 fc2 c3 fc3 c4 fc4 H2
 generalize w2.setCell ⟨g2, 4, none⟩ (.int .i64 1) = w3 at H1 H22 HB ⊢
 have c0 : w3.cell? ⟨g2, 0, none⟩ = some (.int .i64 op) := (blk_cell H22.out 0).trans rfl
 have c1 : w3.cell? ⟨g2, 1, none⟩ = some (.int .i64 0) := (blk_cell H22.out 1).trans rfl
 have c2 : w3.cell? ⟨g2, 2, none⟩ = some (.int .i64 0) := (blk_cell H22.out 2).trans rfl
 have c3 : w3.cell? ⟨g2, 3, none⟩ = some (.int .i64 0) := (blk_cell H22.out 3).trans rfl
 have c4 : w3.cell? ⟨g2, 4, none⟩ = some (.int .i64 1) := (blk_cell H22.out 4).trans rfl
 have fc0 : w3.frozen? ⟨g2, 0, none⟩ = false := blk_frozen H22.out 0
 have fc1 : w3.frozen? ⟨g2, 1, none⟩ = false := blk_frozen H22.out 1
 have fc2 : w3.frozen? ⟨g2, 2, none⟩ = false := blk_frozen H22.out 2
 have fc3 : w3.frozen? ⟨g2, 3, none⟩ = false := blk_frozen H22.out 3
 have fc4 : w3.frozen? ⟨g2, 4, none⟩ = false := blk_frozen H22.out 4
 have d0 : w3.cell? ⟨g1, 0, none⟩ = some (.int .i64 0) := (blk_cell H1.out 0).trans rfl
 have d1 : w3.cell? ⟨g1, 1, none⟩ = some (.int .i64 0) := (blk_cell H1.out 1).trans rfl
 have d2 : w3.cell? ⟨g1, 2, none⟩ = some (.int .i64 0) := (blk_cell H1.out 2).trans rfl
 have d3 : w3.cell? ⟨g1, 3, none⟩ = some (.int .i64 0) := (blk_cell H1.out 3).trans rfl
 have d4 : w3.cell? ⟨g1, 4, none⟩ = some (.int .i64 0) := (blk_cell H1.out 4).trans rfl
 have fd0 : w3.frozen? ⟨g1, 0, none⟩ = false := blk_frozen H1.out 0
 have fd1 : w3.frozen? ⟨g1, 1, none⟩ = false := blk_frozen H1.out 1
 have fd2 : w3.frozen? ⟨g1, 2, none⟩ = false := blk_frozen H1.out 2
 have fd3 : w3.frozen? ⟨g1, 3, none⟩ = false := blk_frozen H1.out 3
 have fd4 : w3.frozen? ⟨g1, 4, none⟩ = false := blk_frozen H1.out 4
 go_wp2
 refine bodyPost_ret (results_ct rfl _ _ g1 42 #[.int .i64 op, .int .i64 0, .int .i64 0, .int .i64 0, .int .i64 1] (0, 0) _ rfl (put5 H1.out) Try.underlying42 rfl info42s) rfl ?_
 subst hg1
 exact ⟨rfl, below5 HB.out (Nat.le_refl _)⟩
theorem stat_one_4n (op : Int) (w : World) (ho : ¬ 1 ≤ op) : Calls Try.prog 27 #[.int .i64 op, .int .i64 4] w fun e w' => e = .returned (.tuple #[.agg #[.int .i64 op, .int .i64 0, .int .i64 0, .int .i64 0, .int .i64 1], .bool (false)]) ∧ Below w.heap.size w w' := by
 obtain ⟨h1, h2, hb⟩ := two_new42 w #[.int .i64 0, .int .i64 0, .int .i64 0, .int .i64 0, .int .i64 0] #[.int .i64 op, .int .i64 0, .int .i64 0, .int .i64 0, .int .i64 0] 42 42
 have H1 := Aside0.mk h1
 have H2 := Aside0.mk h2
 have HB := Aside0.mk hb
 have HG : Aside0 (w.heap.size ≤ w.heap.size + 1) := ⟨Nat.le_succ _⟩
 clear h1 h2 hb
 go_enter Try.func27, Try.ntmps27
 go_upto_region 2 with (fail)
 generalize (w.alloc (.cells #[.int .i64 0, .int .i64 0, .int .i64 0, .int .i64 0, .int .i64 0] 42)).alloc (.cells #[.int .i64 op, .int .i64 0, .int .i64 0, .int .i64 0, .int .i64 0] 42) = w2 at H1 H2 HB ⊢
 have HNE : Aside0 (w.heap.size ≠ w.heap.size + 1) := ⟨by omega⟩
 generalize hg2 : w.heap.size + 1 = g2 at H2 HG HNE ⊢
 generalize hg1 : w.heap.size = g1 at H1 HNE ⊢
 have cb : decide (1 ≤ op) = false := decide_eq_false ho
 have ci : (1 ≤ op) = False := eq_false ho
 have c0 : w2.cell? ⟨g2, 0, none⟩ = some (.int .i64 op) := (blk_cell H2.out 0).trans rfl
 have c1 : w2.cell? ⟨g2, 1, none⟩ = some (.int .i64 0) := (blk_cell H2.out 1).trans rfl
 have c2 : w2.cell? ⟨g2, 2, none⟩ = some (.int .i64 0) := (blk_cell H2.out 2).trans rfl
 have c3 : w2.cell? ⟨g2, 3, none⟩ = some (.int .i64 0) := (blk_cell H2.out 3).trans rfl
 have c4 : w2.cell? ⟨g2, 4, none⟩ = some (.int .i64 0) := (blk_cell H2.out 4).trans rfl
 have fc0 : w2.frozen? ⟨g2, 0, none⟩ = false := blk_frozen H2.out 0
 have fc1 : w2.frozen? ⟨g2, 1, none⟩ = false := blk_frozen H2.out 1
 have fc2 : w2.frozen? ⟨g2, 2, none⟩ = false := blk_frozen H2.out 2
 have fc3 : w2.frozen? ⟨g2, 3, none⟩ = false := blk_frozen H2.out 3
 have fc4 : w2.frozen? ⟨g2, 4, none⟩ = false := blk_frozen H2.out 4
 go_upto_region 12 with (fail)
 have H22 := Aside0.mk (blk_put H2.out 4 (.int .i64 1) (cs' := #[.int .i64 op, .int .i64 0, .int .i64 0, .int .i64 0, .int .i64 1]) rfl)
 replace H1 := Aside0.mk (blk_far H1.out (p := ⟨g2, 4, none⟩) HNE.out (.int .i64 1))
 replace HB := Aside0.mk (HB.out.setCell (p := ⟨g2, 4, none⟩) HG.out (.int .i64 1))
 clear c0 fc0 c1 fc1 c2 fc2 c3 fc3 c4 fc4 H2
 generalize w2.setCell ⟨g2, 4, none⟩ (.int .i64 1) = w3 at H1 H22 HB ⊢
 have c0 : w3.cell? ⟨g2, 0, none⟩ = some (.int .i64 op) := (blk_cell H22.out 0).trans rfl
 have c1 : w3.cell? ⟨g2, 1, none⟩ = some (.int .i64 0) := (blk_cell H22.out 1).trans rfl
 have c2 : w3.cell? ⟨g2, 2, none⟩ = some (.int .i64 0) := (blk_cell H22.out 2).trans rfl
 have c3 : w3.cell? ⟨g2, 3, none⟩ = some (.int .i64 0) := (blk_cell H22.out 3).trans rfl
 have c4 : w3.cell? ⟨g2, 4, none⟩ = some (.int .i64 1) := (blk_cell H22.out 4).trans rfl
 have fc0 : w3.frozen? ⟨g2, 0, none⟩ = false := blk_frozen H22.out 0
 have fc1 : w3.frozen? ⟨g2, 1, none⟩ = false := blk_frozen H22.out 1
 have fc2 : w3.frozen? ⟨g2, 2, none⟩ = false := blk_frozen H22.out 2
 have fc3 : w3.frozen? ⟨g2, 3, none⟩ = false := blk_frozen H22.out 3
 have fc4 : w3.frozen? ⟨g2, 4, none⟩ = false := blk_frozen H22.out 4
 have d0 : w3.cell? ⟨g1, 0, none⟩ = some (.int .i64 0) := (blk_cell H1.out 0).trans rfl
 have d1 : w3.cell? ⟨g1, 1, none⟩ = some (.int .i64 0) := (blk_cell H1.out 1).trans rfl
 have d2 : w3.cell? ⟨g1, 2, none⟩ = some (.int .i64 0) := (blk_cell H1.out 2).trans rfl
 have d3 : w3.cell? ⟨g1, 3, none⟩ = some (.int .i64 0) := (blk_cell H1.out 3).trans rfl
 have d4 : w3.cell? ⟨g1, 4, none⟩ = some (.int .i64 0) := (blk_cell H1.out 4).trans rfl
 have fd0 : w3.frozen? ⟨g1, 0, none⟩ = false := blk_frozen H1.out 0
 have fd1 : w3.frozen? ⟨g1, 1, none⟩ = false := blk_frozen H1.out 1
 have fd2 : w3.frozen? ⟨g1, 2, none⟩ = false := blk_frozen H1.out 2
 have fd3 : w3.frozen? ⟨g1, 3, none⟩ = false := blk_frozen H1.out 3
 have fd4 : w3.frozen? ⟨g1, 4, none⟩ = false := blk_frozen H1.out 4
 go_wp2
 refine bodyPost_ret (results_ct rfl _ _ g1 42 #[.int .i64 op, .int .i64 0, .int .i64 0, .int .i64 0, .int .i64 1] (0, 0) _ rfl (put5 H1.out) Try.underlying42 rfl info42s) rfl ?_
 subst hg1
 exact ⟨rfl, below5 HB.out (Nat.le_refl _)⟩
theorem stat_one_0 (op kind : Int) (w : World) (h1 : kind ≠ 1) (h2 : kind ≠ 2) (h3 : kind ≠ 3) (h4 : kind ≠ 4) : Calls Try.prog 27 #[.int .i64 op, .int .i64 kind] w fun e w' => e = .returned (.tuple #[.agg #[.int .i64 0, .int .i64 0, .int .i64 0, .int .i64 0, .int .i64 0], .bool false]) ∧ Below w.heap.size w w' := by
 have k1 : (kind == 1) = false := beq_eq_false_iff_ne.mpr h1
 have k2 : (kind == 2) = false := beq_eq_false_iff_ne.mpr h2
 have k3 : (kind == 3) = false := beq_eq_false_iff_ne.mpr h3
 have k4 : (kind == 4) = false := beq_eq_false_iff_ne.mpr h4
 clear h1 h2 h3 h4
 obtain ⟨h1, h2, hb⟩ := two_new42 w #[.int .i64 0, .int .i64 0, .int .i64 0, .int .i64 0, .int .i64 0] #[.int .i64 op, .int .i64 0, .int .i64 0, .int .i64 0, .int .i64 0] 42 42
 have H1 := Aside0.mk h1
 have H2 := Aside0.mk h2
 have HB := Aside0.mk hb
 have HG : Aside0 (w.heap.size ≤ w.heap.size + 1) := ⟨Nat.le_succ _⟩
 clear h1 h2 hb
 go_enter Try.func27, Try.ntmps27
 go_upto_region 2 with (fail)
 generalize (w.alloc (.cells #[.int .i64 0, .int .i64 0, .int .i64 0, .int .i64 0, .int .i64 0] 42)).alloc (.cells #[.int .i64 op, .int .i64 0, .int .i64 0, .int .i64 0, .int .i64 0] 42) = w2 at H1 H2 HB ⊢
 have HNE : Aside0 (w.heap.size ≠ w.heap.size + 1) := ⟨by omega⟩
 generalize hg2 : w.heap.size + 1 = g2 at H2 HG HNE ⊢
 generalize hg1 : w.heap.size = g1 at H1 HNE ⊢
 have d0 : w2.cell? ⟨g1, 0, none⟩ = some (.int .i64 0) := (blk_cell H1.out 0).trans rfl
 have d1 : w2.cell? ⟨g1, 1, none⟩ = some (.int .i64 0) := (blk_cell H1.out 1).trans rfl
 have d2 : w2.cell? ⟨g1, 2, none⟩ = some (.int .i64 0) := (blk_cell H1.out 2).trans rfl
 have d3 : w2.cell? ⟨g1, 3, none⟩ = some (.int .i64 0) := (blk_cell H1.out 3).trans rfl
 have d4 : w2.cell? ⟨g1, 4, none⟩ = some (.int .i64 0) := (blk_cell H1.out 4).trans rfl
 have fd0 : w2.frozen? ⟨g1, 0, none⟩ = false := blk_frozen H1.out 0
 have fd1 : w2.frozen? ⟨g1, 1, none⟩ = false := blk_frozen H1.out 1
 have fd2 : w2.frozen? ⟨g1, 2, none⟩ = false := blk_frozen H1.out 2
 have fd3 : w2.frozen? ⟨g1, 3, none⟩ = false := blk_frozen H1.out 3
 have fd4 : w2.frozen? ⟨g1, 4, none⟩ = false := blk_frozen H1.out 4
 go_wp2
 refine bodyPost_ret (results_ct rfl _ _ g1 42 #[.int .i64 0, .int .i64 0, .int .i64 0, .int .i64 0, .int .i64 0] (0, 0) _ rfl (put5 H1.out) Try.underlying42 rfl info42s) rfl ?_
 subst hg1
 exact ⟨rfl, below5 HB.out (Nat.le_refl _)⟩
theorem stat_one.calls (a0 : Int) (a1 : Int) (r1 : Int) (r2 : Int) (r3 : Int) (r4 : Int) (r5 : Int) (r6 : Bool) (w : World) (h : stat_one.f a0 a1 = some (r1, r2, r3, r4, r5, r6)) :
  Calls Try.prog 27 #[.int .i64 a0, .int .i64 a1] w fun e w' => e = .returned (.tuple #[.agg #[.int .i64 r1, .int .i64 r2, .int .i64 r3, .int .i64 r4, .int .i64 r5], .bool r6]) ∧ Below w.heap.size w w' := by
 unfold stat_one.f at h
 by_cases c1 : a1 = 1
 ·subst c1
  simp only [if_true, if_false] at h
  by_cases ho : a0 ≥ 1
  ·rw [if_pos ho] at h
   simp only [Option.some.injEq, Prod.mk.injEq] at h
   obtain ⟨rfl, rfl, rfl, rfl, rfl, rfl⟩ := h
   exact stat_one_1y a0 w ho
  ·rw [if_neg ho] at h
   simp only [Option.some.injEq, Prod.mk.injEq] at h
   obtain ⟨rfl, rfl, rfl, rfl, rfl, rfl⟩ := h
   exact stat_one_1n a0 w ho
 by_cases c2 : a1 = 2
 ·subst c2
  simp only [show ¬ ((2 : Int) = 1) from by decide, if_true, if_false] at h
  by_cases ho : a0 ≥ 1
  ·rw [if_pos ho] at h
   simp only [Option.some.injEq, Prod.mk.injEq] at h
   obtain ⟨rfl, rfl, rfl, rfl, rfl, rfl⟩ := h
   exact stat_one_2y a0 w ho
  ·rw [if_neg ho] at h
   simp only [Option.some.injEq, Prod.mk.injEq] at h
   obtain ⟨rfl, rfl, rfl, rfl, rfl, rfl⟩ := h
   exact stat_one_2n a0 w ho
 by_cases c3 : a1 = 3
 ·subst c3
  simp only [show ¬ ((3 : Int) = 1) from by decide, show ¬ ((3 : Int) = 2) from by decide, if_true, if_false] at h
  by_cases ho : a0 ≥ 1
  ·rw [if_pos ho] at h
   simp only [Option.some.injEq, Prod.mk.injEq] at h
   obtain ⟨rfl, rfl, rfl, rfl, rfl, rfl⟩ := h
   exact stat_one_3y a0 w ho
  ·rw [if_neg ho] at h
   simp only [Option.some.injEq, Prod.mk.injEq] at h
   obtain ⟨rfl, rfl, rfl, rfl, rfl, rfl⟩ := h
   exact stat_one_3n a0 w ho
 by_cases c4 : a1 = 4
 ·subst c4
  simp only [show ¬ ((4 : Int) = 1) from by decide, show ¬ ((4 : Int) = 2) from by decide, show ¬ ((4 : Int) = 3) from by decide, if_true, if_false] at h
  by_cases ho : a0 ≥ 1
  ·rw [if_pos ho] at h
   simp only [Option.some.injEq, Prod.mk.injEq] at h
   obtain ⟨rfl, rfl, rfl, rfl, rfl, rfl⟩ := h
   exact stat_one_4y a0 w ho
  ·rw [if_neg ho] at h
   simp only [Option.some.injEq, Prod.mk.injEq] at h
   obtain ⟨rfl, rfl, rfl, rfl, rfl, rfl⟩ := h
   exact stat_one_4n a0 w ho
 rw [if_neg c1, if_neg c2, if_neg c3, if_neg c4] at h
 simp only [Option.some.injEq, Prod.mk.injEq] at h
 obtain ⟨rfl, rfl, rfl, rfl, rfl, rfl⟩ := h
 exact stat_one_0 a0 a1 w c1 c2 c3 c4

/-! ### stat_plus: function 28 -/
def stat_plus.f (a0_0 : Int) (a0_1 : Int) (a0_2 : Int) (a0_3 : Int) (a0_4 : Int) (a1_0 : Int) (a1_1 : Int) (a1_2 : Int) (a1_3 : Int) (a1_4 : Int) : Option (Int × Int × Int × Int × Int) := some (a0_0, wrap64 (a0_1 + a1_1), wrap64 (a0_2 + a1_2), wrap64 (a0_3 + a1_3), wrap64 (a0_4 + a1_4))
set_option maxHeartbeats 100000000 in
set_option maxRecDepth 100000 in
theorem stat_plus.calls (a0_0 : Int) (a0_1 : Int) (a0_2 : Int) (a0_3 : Int) (a0_4 : Int) (a1_0 : Int) (a1_1 : Int) (a1_2 : Int) (a1_3 : Int) (a1_4 : Int) (r1 : Int) (r2 : Int) (r3 : Int) (r4 : Int) (r5 : Int) (w : World) (h : stat_plus.f a0_0 a0_1 a0_2 a0_3 a0_4 a1_0 a1_1 a1_2 a1_3 a1_4 = some (r1, r2, r3, r4, r5)) :
  Calls Try.prog 28 #[.agg #[.int .i64 a0_0, .int .i64 a0_1, .int .i64 a0_2, .int .i64 a0_3, .int .i64 a0_4], .agg #[.int .i64 a1_0, .int .i64 a1_1, .int .i64 a1_2, .int .i64 a1_3, .int .i64 a1_4]] w fun e w' => e = .returned (.agg #[.int .i64 r1, .int .i64 r2, .int .i64 r3, .int .i64 r4, .int .i64 r5]) ∧ Below w.heap.size w w' := by
 have hu42 := Try.underlying42
 have HB := Aside0.mk (Below.refl w.heap.size w)
 have H : (some (a0_0, wrap64 (a0_1 + a1_1), wrap64 (a0_2 + a1_2), wrap64 (a0_3 + a1_3), wrap64 (a0_4 + a1_4))) = some (r1, r2, r3, r4, r5) := h
 clear h
 simp only [Option.some.injEq, Prod.mk.injEq] at H
 obtain ⟨rfl, rfl, rfl, rfl, rfl⟩ := H
 go_enter Try.func28, Try.ntmps28
 go_wp2_with (first | ((with_reducible refine gate_dst (N := 2) rfl ?_); refine box_event ?hg (N := 2) ?hd (cs := #[.int .i64 a0_0, .int .i64 a0_1, .int .i64 a0_2, .int .i64 a0_3, .int .i64 a0_4]) (t := 42) ?hr ?_; (case hd => rfl); (case hg => rfl); (case hr => first | (go_simp; done) | (go_simp; rfl)); intro gb103 hg w3 hbox hb; have n0_ := Aside0.mk (below_step (by repeat (first | (with_reducible first | exact HB.out | apply below_alloc | apply pw_below_drewN | apply below_drew1) | exact HB.out)) hb); have n1_ := Aside0.mk (hbox); have n2_ := Aside0.mk ((by rw [hg]; exact (below_size (by repeat (first | (with_reducible first | exact HB.out | apply below_alloc | apply pw_below_drewN | apply below_drew1) | exact HB.out))) : w.heap.size ≤ gb103)); have n3_ := Aside0.mk ((by rw [hg]; exact (below_size (by repeat (first | (with_reducible first | exact HB.out | apply below_alloc | apply pw_below_drewN | apply below_drew1) | exact HB.out))) : w.heap.size ≤ gb103)); clear HB; have HB := n0_; have BK103 := n1_; have GW103 := n2_; have GE103 := n3_; clear n0_ n1_ n2_ n3_; clear hb hbox hg) | ((with_reducible refine gate_dst (N := 3) rfl ?_); refine box_event ?hg (N := 3) ?hd (cs := #[.int .i64 a1_0, .int .i64 a1_1, .int .i64 a1_2, .int .i64 a1_3, .int .i64 a1_4]) (t := 42) ?hr ?_; (case hd => rfl); (case hg => rfl); (case hr => first | (go_simp; done) | (go_simp; rfl)); intro gb104 hg w4 hbox hb; have n0_ := Aside0.mk (blk_below (g := gb103) (o := .cells #[.int .i64 a0_0, .int .i64 a0_1, .int .i64 a0_2, .int .i64 a0_3, .int .i64 a0_4] 42 (0, 0)) (by (with_reducible repeat (first | refine blk_drewN ?_ _ | refine blk_drew ?_ | refine blk_alloc ?_ _)); exact BK103.out) hb); have n1_ := Aside0.mk (below_step (by repeat (first | (with_reducible first | exact HB.out | apply below_alloc | apply pw_below_drewN | apply below_drew1 | refine below_set ?_ GE103.out) | exact HB.out)) hb); have n2_ := Aside0.mk (hbox); have n3_ := Aside0.mk ((by rw [hg]; exact (below_size (by repeat (first | (with_reducible first | exact HB.out | apply below_alloc | apply pw_below_drewN | apply below_drew1 | refine below_set ?_ GE103.out) | exact HB.out))) : w.heap.size ≤ gb104)); have n4_ := Aside0.mk ((by rw [hg]; exact (below_size (by repeat (first | (with_reducible first | exact HB.out | apply below_alloc | apply pw_below_drewN | apply below_drew1 | refine below_set ?_ GE103.out) | exact HB.out))) : w.heap.size ≤ gb104)); have n5_ := Aside0.mk ((by rw [hg]; exact Nat.ne_of_lt (blk_lt (g := gb103) (o := .cells #[.int .i64 a0_0, .int .i64 a0_1, .int .i64 a0_2, .int .i64 a0_3, .int .i64 a0_4] 42 (0, 0)) (by (with_reducible repeat (first | refine blk_drewN ?_ _ | refine blk_drew ?_ | refine blk_alloc ?_ _)); exact BK103.out)) : gb103 ≠ gb104)); have n6_ := Aside0.mk ((by rw [hg]; exact Nat.ne_of_gt (blk_lt (g := gb103) (o := .cells #[.int .i64 a0_0, .int .i64 a0_1, .int .i64 a0_2, .int .i64 a0_3, .int .i64 a0_4] 42 (0, 0)) (by (with_reducible repeat (first | refine blk_drewN ?_ _ | refine blk_drew ?_ | refine blk_alloc ?_ _)); exact BK103.out)) : gb104 ≠ gb103)); clear BK103; clear HB; have BK103 := n0_; have HB := n1_; have BK104 := n2_; have GW104 := n3_; have GE104 := n4_; have NB103_104 := n5_; have NB104_103 := n6_; clear n0_ n1_ n2_ n3_ n4_ n5_ n6_; clear hb hbox hg) | ((with_reducible refine gate_dst (N := 4) rfl ?_); refine box_event ?hg (N := 4) ?hd (cs := #[.int .i64 0, .int .i64 0, .int .i64 0, .int .i64 0, .int .i64 0]) (t := 42) ?hr ?_; (case hd => rfl); (case hg => rfl); (case hr => first | (go_simp; done) | (go_simp; rfl)); intro gb105 hg w5 hbox hb; have n0_ := Aside0.mk (blk_below (g := gb103) (o := .cells #[.int .i64 a0_0, .int .i64 a0_1, .int .i64 a0_2, .int .i64 a0_3, .int .i64 a0_4] 42 (0, 0)) (by (with_reducible repeat (first | refine blk_drewN ?_ _ | refine blk_drew ?_ | refine blk_alloc ?_ _)); exact BK103.out) hb); have n1_ := Aside0.mk (blk_below (g := gb104) (o := .cells #[.int .i64 a1_0, .int .i64 a1_1, .int .i64 a1_2, .int .i64 a1_3, .int .i64 a1_4] 42 (0, 0)) (by (with_reducible repeat (first | refine blk_drewN ?_ _ | refine blk_drew ?_ | refine blk_alloc ?_ _)); exact BK104.out) hb); have n2_ := Aside0.mk (below_step (by repeat (first | (with_reducible first | exact HB.out | apply below_alloc | apply pw_below_drewN | apply below_drew1 | refine below_set ?_ GE103.out | refine below_set ?_ GE104.out) | exact HB.out)) hb); have n3_ := Aside0.mk (hbox); have n4_ := Aside0.mk ((by rw [hg]; exact (below_size (by repeat (first | (with_reducible first | exact HB.out | apply below_alloc | apply pw_below_drewN | apply below_drew1 | refine below_set ?_ GE103.out | refine below_set ?_ GE104.out) | exact HB.out))) : w.heap.size ≤ gb105)); have n5_ := Aside0.mk ((by rw [hg]; exact (below_size (by repeat (first | (with_reducible first | exact HB.out | apply below_alloc | apply pw_below_drewN | apply below_drew1 | refine below_set ?_ GE103.out | refine below_set ?_ GE104.out) | exact HB.out))) : w.heap.size ≤ gb105)); have n6_ := Aside0.mk ((by rw [hg]; exact Nat.ne_of_lt (blk_lt (g := gb103) (o := .cells #[.int .i64 a0_0, .int .i64 a0_1, .int .i64 a0_2, .int .i64 a0_3, .int .i64 a0_4] 42 (0, 0)) (by (with_reducible repeat (first | refine blk_drewN ?_ _ | refine blk_drew ?_ | refine blk_alloc ?_ _)); exact BK103.out)) : gb103 ≠ gb105)); have n7_ := Aside0.mk ((by rw [hg]; exact Nat.ne_of_gt (blk_lt (g := gb103) (o := .cells #[.int .i64 a0_0, .int .i64 a0_1, .int .i64 a0_2, .int .i64 a0_3, .int .i64 a0_4] 42 (0, 0)) (by (with_reducible repeat (first | refine blk_drewN ?_ _ | refine blk_drew ?_ | refine blk_alloc ?_ _)); exact BK103.out)) : gb105 ≠ gb103)); have n8_ := Aside0.mk ((by rw [hg]; exact Nat.ne_of_lt (blk_lt (g := gb104) (o := .cells #[.int .i64 a1_0, .int .i64 a1_1, .int .i64 a1_2, .int .i64 a1_3, .int .i64 a1_4] 42 (0, 0)) (by (with_reducible repeat (first | refine blk_drewN ?_ _ | refine blk_drew ?_ | refine blk_alloc ?_ _)); exact BK104.out)) : gb104 ≠ gb105)); have n9_ := Aside0.mk ((by rw [hg]; exact Nat.ne_of_gt (blk_lt (g := gb104) (o := .cells #[.int .i64 a1_0, .int .i64 a1_1, .int .i64 a1_2, .int .i64 a1_3, .int .i64 a1_4] 42 (0, 0)) (by (with_reducible repeat (first | refine blk_drewN ?_ _ | refine blk_drew ?_ | refine blk_alloc ?_ _)); exact BK104.out)) : gb105 ≠ gb104)); clear BK103; clear BK104; clear HB; have BK103 := n0_; have BK104 := n1_; have HB := n2_; have BK105 := n3_; have GW105 := n4_; have GE105 := n5_; have NB103_105 := n6_; have NB105_103 := n7_; have NB104_105 := n8_; have NB105_104 := n9_; clear n0_ n1_ n2_ n3_ n4_ n5_ n6_ n7_ n8_ n9_; clear hb hbox hg; have hnb6 := NB103_104.out; have hnc6 := NB104_103.out; have hnb7 := NB103_105.out; have hnc7 := NB105_103.out; have hcz8_0 : w5.cell? ⟨gb103, 0, none⟩ = some (.int .i64 a0_0) := (blk_cell BK103.out 0).trans rfl; have hcz8_1 : w5.cell? ⟨gb103, 1, none⟩ = some (.int .i64 a0_1) := (blk_cell BK103.out 1).trans rfl; have hcz8_2 : w5.cell? ⟨gb103, 2, none⟩ = some (.int .i64 a0_2) := (blk_cell BK103.out 2).trans rfl; have hcz8_3 : w5.cell? ⟨gb103, 3, none⟩ = some (.int .i64 a0_3) := (blk_cell BK103.out 3).trans rfl; have hcz8_4 : w5.cell? ⟨gb103, 4, none⟩ = some (.int .i64 a0_4) := (blk_cell BK103.out 4).trans rfl; have hfz8_0 := blk_frozen BK103.out 0; have hfz8_1 := blk_frozen BK103.out 1; have hfz8_2 := blk_frozen BK103.out 2; have hfz8_3 := blk_frozen BK103.out 3; have hfz8_4 := blk_frozen BK103.out 4; have hnb9 := NB104_105.out; have hnc9 := NB105_104.out; have hcz10_0 : w5.cell? ⟨gb104, 0, none⟩ = some (.int .i64 a1_0) := (blk_cell BK104.out 0).trans rfl; have hcz10_1 : w5.cell? ⟨gb104, 1, none⟩ = some (.int .i64 a1_1) := (blk_cell BK104.out 1).trans rfl; have hcz10_2 : w5.cell? ⟨gb104, 2, none⟩ = some (.int .i64 a1_2) := (blk_cell BK104.out 2).trans rfl; have hcz10_3 : w5.cell? ⟨gb104, 3, none⟩ = some (.int .i64 a1_3) := (blk_cell BK104.out 3).trans rfl; have hcz10_4 : w5.cell? ⟨gb104, 4, none⟩ = some (.int .i64 a1_4) := (blk_cell BK104.out 4).trans rfl; have hfz10_0 := blk_frozen BK104.out 0; have hfz10_1 := blk_frozen BK104.out 1; have hfz10_2 := blk_frozen BK104.out 2; have hfz10_3 := blk_frozen BK104.out 3; have hfz10_4 := blk_frozen BK104.out 4; have hcz11_0 : w5.cell? ⟨gb105, 0, none⟩ = some (.int .i64 0) := (blk_cell BK105.out 0).trans rfl; have hcz11_1 : w5.cell? ⟨gb105, 1, none⟩ = some (.int .i64 0) := (blk_cell BK105.out 1).trans rfl; have hcz11_2 : w5.cell? ⟨gb105, 2, none⟩ = some (.int .i64 0) := (blk_cell BK105.out 2).trans rfl; have hcz11_3 : w5.cell? ⟨gb105, 3, none⟩ = some (.int .i64 0) := (blk_cell BK105.out 3).trans rfl; have hcz11_4 : w5.cell? ⟨gb105, 4, none⟩ = some (.int .i64 0) := (blk_cell BK105.out 4).trans rfl; have hfz11_0 := blk_frozen BK105.out 0; have hfz11_1 := blk_frozen BK105.out 1; have hfz11_2 := blk_frozen BK105.out 2; have hfz11_3 := blk_frozen BK105.out 3; have hfz11_4 := blk_frozen BK105.out 4))
 refine bodyPost_ret (results_cell_row rfl _ _ gb105 42 #[.int .i64 a0_0, .int .i64 (wrap64 (a0_1 + a1_1)), .int .i64 (wrap64 (a0_2 + a1_2)), .int .i64 (wrap64 (a0_3 + a1_3)), .int .i64 (wrap64 (a0_4 + a1_4))] (0, 0) _ rfl (by (with_reducible repeat (first | refine blk_drewN ?_ _ | refine blk_drew ?_ | refine blk_alloc ?_ _)); refine blk_put (cs := #[.int .i64 a0_0, .int .i64 (wrap64 (a0_1 + a1_1)), .int .i64 (wrap64 (a0_2 + a1_2)), .int .i64 (wrap64 (a0_3 + a1_3)), .int .i64 0]) ?_ 4 _ rfl; (with_reducible repeat (first | refine blk_drewN ?_ _ | refine blk_drew ?_ | refine blk_alloc ?_ _)); refine blk_put (cs := #[.int .i64 a0_0, .int .i64 (wrap64 (a0_1 + a1_1)), .int .i64 (wrap64 (a0_2 + a1_2)), .int .i64 0, .int .i64 0]) ?_ 3 _ rfl; (with_reducible repeat (first | refine blk_drewN ?_ _ | refine blk_drew ?_ | refine blk_alloc ?_ _)); refine blk_put (cs := #[.int .i64 a0_0, .int .i64 (wrap64 (a0_1 + a1_1)), .int .i64 0, .int .i64 0, .int .i64 0]) ?_ 2 _ rfl; (with_reducible repeat (first | refine blk_drewN ?_ _ | refine blk_drew ?_ | refine blk_alloc ?_ _)); refine blk_put (cs := #[.int .i64 a0_0, .int .i64 0, .int .i64 0, .int .i64 0, .int .i64 0]) ?_ 1 _ rfl; (with_reducible repeat (first | refine blk_drewN ?_ _ | refine blk_drew ?_ | refine blk_alloc ?_ _)); refine blk_put (cs := #[.int .i64 0, .int .i64 0, .int .i64 0, .int .i64 0, .int .i64 0]) ?_ 0 _ rfl; (with_reducible repeat (first | refine blk_drewN ?_ _ | refine blk_drew ?_ | refine blk_alloc ?_ _)); refine blk_far ?_ NB105_103.out _; (with_reducible repeat (first | refine blk_drewN ?_ _ | refine blk_drew ?_ | refine blk_alloc ?_ _)); refine blk_far ?_ NB105_103.out _; (with_reducible repeat (first | refine blk_drewN ?_ _ | refine blk_drew ?_ | refine blk_alloc ?_ _)); refine blk_far ?_ NB105_103.out _; (with_reducible repeat (first | refine blk_drewN ?_ _ | refine blk_drew ?_ | refine blk_alloc ?_ _)); refine blk_far ?_ NB105_103.out _; (with_reducible repeat (first | refine blk_drewN ?_ _ | refine blk_drew ?_ | refine blk_alloc ?_ _)); exact BK105.out) Try.underlying42 rfl (by kernel_rfl)) rfl ?_
 exact ⟨by first | rfl | (simp [errW_none, errW_some] <;> rfl) | (simp [*, errW_none, errW_some] <;> rfl), by repeat (first | (with_reducible first | exact HB.out | apply below_alloc | apply pw_below_drewN | apply below_drew1 | refine below_set ?_ GE103.out | refine below_set ?_ GE104.out | refine below_set ?_ GE105.out) | exact HB.out)⟩

/-! ### stat_total: function 29 -/
def stat_total.f (a0_0 : Int) (a0_1 : Int) (a0_2 : Int) (a0_3 : Int) (a0_4 : Int) : Option (Int) := some (wrap64 ((wrap64 ((wrap64 (a0_1 + a0_2)) + a0_3)) + a0_4))
set_option maxHeartbeats 100000000 in
set_option maxRecDepth 100000 in
theorem stat_total.calls (a0_0 : Int) (a0_1 : Int) (a0_2 : Int) (a0_3 : Int) (a0_4 : Int) (r : Int) (w : World) (h : stat_total.f a0_0 a0_1 a0_2 a0_3 a0_4 = some r) :
  Calls Try.prog 29 #[.agg #[.int .i64 a0_0, .int .i64 a0_1, .int .i64 a0_2, .int .i64 a0_3, .int .i64 a0_4]] w fun e w' => e = .returned (.int .i64 r) ∧ Below w.heap.size w w' := by
 have hu42 := Try.underlying42
 have HB := Aside0.mk (Below.refl w.heap.size w)
 have H : (some (wrap64 ((wrap64 ((wrap64 (a0_1 + a0_2)) + a0_3)) + a0_4))) = some r := h
 clear h
 obtain rfl := Option.some.inj H
 go_enter Try.func29, Try.ntmps29
 go_wp2_with (first | ((with_reducible refine gate_dst (N := 1) rfl ?_); refine box_event ?hg (N := 1) ?hd (cs := #[.int .i64 a0_0, .int .i64 a0_1, .int .i64 a0_2, .int .i64 a0_3, .int .i64 a0_4]) (t := 42) ?hr ?_; (case hd => rfl); (case hg => rfl); (case hr => first | (go_simp; done) | (go_simp; rfl)); intro gb106 hg w2 hbox hb; have n0_ := Aside0.mk (below_step (by repeat (first | (with_reducible first | exact HB.out | apply below_alloc | apply pw_below_drewN | apply below_drew1) | exact HB.out)) hb); have n1_ := Aside0.mk (hbox); have n2_ := Aside0.mk ((by rw [hg]; exact (below_size (by repeat (first | (with_reducible first | exact HB.out | apply below_alloc | apply pw_below_drewN | apply below_drew1) | exact HB.out))) : w.heap.size ≤ gb106)); have n3_ := Aside0.mk ((by rw [hg]; exact (below_size (by repeat (first | (with_reducible first | exact HB.out | apply below_alloc | apply pw_below_drewN | apply below_drew1) | exact HB.out))) : w.heap.size ≤ gb106)); clear HB; have HB := n0_; have BK106 := n1_; have GW106 := n2_; have GE106 := n3_; clear n0_ n1_ n2_ n3_; clear hb hbox hg; have hcz3_0 : w2.cell? ⟨gb106, 0, none⟩ = some (.int .i64 a0_0) := (blk_cell BK106.out 0).trans rfl; have hcz3_1 : w2.cell? ⟨gb106, 1, none⟩ = some (.int .i64 a0_1) := (blk_cell BK106.out 1).trans rfl; have hcz3_2 : w2.cell? ⟨gb106, 2, none⟩ = some (.int .i64 a0_2) := (blk_cell BK106.out 2).trans rfl; have hcz3_3 : w2.cell? ⟨gb106, 3, none⟩ = some (.int .i64 a0_3) := (blk_cell BK106.out 3).trans rfl; have hcz3_4 : w2.cell? ⟨gb106, 4, none⟩ = some (.int .i64 a0_4) := (blk_cell BK106.out 4).trans rfl; have hfz3_0 := blk_frozen BK106.out 0; have hfz3_1 := blk_frozen BK106.out 1; have hfz3_2 := blk_frozen BK106.out 2; have hfz3_3 := blk_frozen BK106.out 3; have hfz3_4 := blk_frozen BK106.out 4))
 go_ret
 exact ⟨by first | rfl | (simp [errW_none, errW_some] <;> rfl) | (simp [*, errW_none, errW_some] <;> rfl), by repeat (first | (with_reducible first | exact HB.out | apply below_alloc | apply pw_below_drewN | apply below_drew1 | refine below_set ?_ GE106.out) | exact HB.out)⟩

-- NOT PRINTED: function 10 (stat_Count)

/-! ### stat_numbers: function 37 -/
def stat_numbers.f (a0_0 : Int) (a0_1 : Int) (a0_2 : Int) (a0_3 : Int) (a0_4 : Int) : Option (List Int) := some (([a0_1, a0_2, a0_3, a0_4] : List Int))
set_option maxHeartbeats 100000000 in
set_option maxRecDepth 100000 in
theorem stat_numbers.calls (a0_0 : Int) (a0_1 : Int) (a0_2 : Int) (a0_3 : Int) (a0_4 : Int) (r : List Int) (w : World) (h : stat_numbers.f a0_0 a0_1 a0_2 a0_3 a0_4 = some r) :
  Calls Try.prog 37 #[.agg #[.int .i64 a0_0, .int .i64 a0_1, .int .i64 a0_2, .int .i64 a0_3, .int .i64 a0_4]] w fun e w' => ∃ v0_ : Value, e = .returned (v0_) ∧ Kd.R (Kd.int .i64) 3 w' w.heap.size (fun _ => True) v0_ r ∧ Below w.heap.size w w' := by
 have hu42 := Try.underlying42
 have HB := Aside0.mk (Below.refl w.heap.size w)
 have H : (some (([a0_1, a0_2, a0_3, a0_4] : List Int))) = some r := h
 clear h
 obtain ⟨y112, hy112⟩ : ∃ y_ : List Int, y_ = (([a0_1, a0_2, a0_3, a0_4] : List Int)) := ⟨_, rfl⟩
 replace H : (some y112) = some r := by first | (rw [hy112]; with_reducible exact H) | (have H2_ := (Option.bind_some _ _).symm.trans H; rw [hy112]; with_reducible exact H2_) | (have H2_ := (Option.bind_some _ _).symm.trans H; with_reducible exact H2_) | with_reducible exact H | (rw [hy112]; exact H) | exact H
 have Ny112 := Aside0.mk hy112
 clear hy112
 obtain rfl := Option.some.inj H
 go_enter Try.func37, Try.ntmps37
 go_wp2_with (first | ((with_reducible refine gate_dst (N := 1) rfl ?_); refine box_event ?hg (N := 1) ?hd (cs := #[.int .i64 a0_0, .int .i64 a0_1, .int .i64 a0_2, .int .i64 a0_3, .int .i64 a0_4]) (t := 42) ?hr ?_; (case hd => rfl); (case hg => rfl); (case hr => first | (go_simp; done) | (go_simp; rfl)); intro gb111 hg w2 hbox hb; have n0_ := Aside0.mk (below_step (by repeat (first | (with_reducible first | exact HB.out | apply below_alloc | apply pw_below_drewN | apply below_drew1) | exact HB.out)) hb); have n1_ := Aside0.mk (hbox); have n2_ := Aside0.mk ((by rw [hg]; exact (below_size (by repeat (first | (with_reducible first | exact HB.out | apply below_alloc | apply pw_below_drewN | apply below_drew1) | exact HB.out))) : w.heap.size ≤ gb111)); have n3_ := Aside0.mk ((by rw [hg]; exact (below_size (by repeat (first | (with_reducible first | exact HB.out | apply below_alloc | apply pw_below_drewN | apply below_drew1) | exact HB.out))) : w.heap.size ≤ gb111)); clear HB; have HB := n0_; have BK111 := n1_; have GW111 := n2_; have GE111 := n3_; clear n0_ n1_ n2_ n3_; clear hb hbox hg; have hcz3_0 : w2.cell? ⟨gb111, 0, none⟩ = some (.int .i64 a0_0) := (blk_cell BK111.out 0).trans rfl; have hcz3_1 : w2.cell? ⟨gb111, 1, none⟩ = some (.int .i64 a0_1) := (blk_cell BK111.out 1).trans rfl; have hcz3_2 : w2.cell? ⟨gb111, 2, none⟩ = some (.int .i64 a0_2) := (blk_cell BK111.out 2).trans rfl; have hcz3_3 : w2.cell? ⟨gb111, 3, none⟩ = some (.int .i64 a0_3) := (blk_cell BK111.out 3).trans rfl; have hcz3_4 : w2.cell? ⟨gb111, 4, none⟩ = some (.int .i64 a0_4) := (blk_cell BK111.out 4).trans rfl; have hfz3_0 := blk_frozen BK111.out 0; have hfz3_1 := blk_frozen BK111.out 1; have hfz3_2 := blk_frozen BK111.out 2; have hfz3_3 := blk_frozen BK111.out 3; have hfz3_4 := blk_frozen BK111.out 4) | ((with_reducible refine gate_dst (N := 11) rfl ?_); refine Kd.R_lit (Kd.int .i64) _ 3 ?hg (N := 11) ?hd (xs := ([a0_1, a0_2, a0_3, a0_4] : List Int)) (inner := [.int .i64 a0_1, .int .i64 a0_2, .int .i64 a0_3, .int .i64 a0_4]) (ok := fun _ => True) (okp := fun _ => True) ?hr ?hp (fun _ hk => hk) trivial (Below.refl _ _) (Nat.le_refl _) (by simp) ?_; (case hd => rfl); (case hg => rfl); (case hr => first | (go_simp; done) | (go_simp; rfl)); (case hp => exact (Reps.one (show Kd.M (Kd.int .i64) _ _ _ a0_1 [.int .i64 a0_1] from rfl) (Reps.one (show Kd.M (Kd.int .i64) _ _ _ a0_2 [.int .i64 a0_2] from rfl) (Reps.one (show Kd.M (Kd.int .i64) _ _ _ a0_3 [.int .i64 a0_3] from rfl) (Reps.one (show Kd.M (Kd.int .i64) _ _ _ a0_4 [.int .i64 a0_4] from rfl) (Reps.none _ _)))))); intro v113 w4 ho5 hb hg_ hnew_; clear hg_ hnew_; (first | rw [← Ny112.out] at ho5 | (simp only [Int.reduceToNat] at ho5; rw [← Ny112.out] at ho5)); have n0_ := Aside0.mk (Kd.R_lower ho5 (below_size (by repeat (first | (with_reducible first | exact HB.out | apply below_alloc | apply pw_below_drewN | apply below_drew1 | refine below_set ?_ GE111.out) | exact HB.out)))); have n1_ := Aside0.mk (blk_below (g := gb111) (o := .cells #[.int .i64 a0_0, .int .i64 a0_1, .int .i64 a0_2, .int .i64 a0_3, .int .i64 a0_4] 42 (0, 0)) (by (with_reducible repeat (first | refine blk_drewN ?_ _ | refine blk_drew ?_ | refine blk_alloc ?_ _)); exact BK111.out) hb); have n2_ := Aside0.mk (below_step (by repeat (first | (with_reducible first | exact HB.out | apply below_alloc | apply pw_below_drewN | apply below_drew1 | refine below_set ?_ GE111.out) | exact HB.out)) hb); clear BK111; clear HB; have HO114 := n0_; have BK111 := n1_; have HB := n2_; clear n0_ n1_ n2_; clear hb ho5))
 go_ret
 exact ⟨_, by first | rfl | (simp [errW_none, errW_some] <;> rfl) | (simp [*, errW_none, errW_some] <;> rfl), by (with_reducible repeat (first | apply Kd.R_alloc | apply Kd.R_drewN | apply Kd.R_drew)); exact HO114.out, by repeat (first | (with_reducible first | exact HB.out | apply below_alloc | apply pw_below_drewN | apply below_drew1 | refine below_set ?_ GE111.out) | exact HB.out)⟩

/-! ### stat_fits: function 31 -/
def stat_fits.l0 : Nat → List Int → Int → Int → Int → Int → Int → Int → Int → Option (Bool)
 | 0, _, _, _, _, _, _, _, _ => none
 | k + 1, x6, x7, x8, x116000, x116001, x116002, x116003, x116004 => if x8 < x7 then (if 0 ≤ x8 then (if x8 < (x6.length : Int) then (if (rd x6 x8) < 0 then (some false) else (if (rd x6 x8) > 1073741824 then (some false) else (stat_fits.l0 k x6 x7 (wrap64 (x8 + 1)) x116000 x116001 x116002 x116003 x116004))) else (none)) else (none)) else (if x116000 ≥ 1 then (if x116000 ≤ 14 then ((stat_total.f x116000 x116001 x116002 x116003 x116004).bind fun t120 => (some (decide (t120 > 0)))) else (some false)) else (some false))
def stat_fits.f (k : Nat) (a0_0 : Int) (a0_1 : Int) (a0_2 : Int) (a0_3 : Int) (a0_4 : Int) : Option (Bool) := (stat_numbers.f a0_0 a0_1 a0_2 a0_3 a0_4).bind fun t116 => (stat_fits.l0 k t116 (t116.length : Int) 0 a0_0 a0_1 a0_2 a0_3 a0_4)
theorem stat_fits.mono_l : ∀ k, (∀ y0 y1 y2 y3 y4 y5 y6 y7, LeO (stat_fits.l0 k y0 y1 y2 y3 y4 y5 y6 y7) (stat_fits.l0 (k + 1) y0 y1 y2 y3 y4 y5 y6 y7))
 | 0 => fun _ _ _ _ _ _ _ _ r h => by simp [stat_fits.l0] at h
 | k + 1 => by
  have ih0 := stat_fits.mono_l k
  ·intro y0 y1 y2 y3 y4 y5 y6 y7
   unfold stat_fits.l0
   repeat' first
   | (with_reducible exact ih0 _ _ _ _ _ _ _ _)
   | (with_reducible exact LeO.refl _)
   | (with_reducible exact LeO.none _)
   | (with_reducible refine LeO.ite ?_ ?_)
   | (with_reducible refine LeO.bind ?_ (fun _ => ?_))
   | exact ih0 _ _ _ _ _ _ _ _
   | exact LeO.none _
   | refine LeO.ite ?_ ?_
   | refine LeO.bind ?_ (fun _ => ?_)
theorem stat_fits.mono : ∀ a0 a1 a2 a3 a4 k, LeO (stat_fits.f k a0 a1 a2 a3 a4) (stat_fits.f (k + 1) a0 a1 a2 a3 a4) := by
 intro a0 a1 a2 a3 a4 k
 have ih0 := stat_fits.mono_l k
 unfold stat_fits.f
 repeat' first
   | (with_reducible exact ih0 _ _ _ _ _ _ _ _)
   | (with_reducible exact LeO.refl _)
   | (with_reducible exact LeO.none _)
   | (with_reducible refine LeO.ite ?_ ?_)
   | (with_reducible refine LeO.bind ?_ (fun _ => ?_))
   | exact ih0 _ _ _ _ _ _ _ _
   | exact LeO.none _
   | refine LeO.ite ?_ ?_
   | refine LeO.bind ?_ (fun _ => ?_)
set_option maxHeartbeats 100000000 in
set_option maxRecDepth 100000 in
theorem stat_fits.calls (k : Nat) (a0_0 : Int) (a0_1 : Int) (a0_2 : Int) (a0_3 : Int) (a0_4 : Int) (r : Bool) (w : World) (h : stat_fits.f k a0_0 a0_1 a0_2 a0_3 a0_4 = some r) :
  Calls Try.prog 31 #[.agg #[.int .i64 a0_0, .int .i64 a0_1, .int .i64 a0_2, .int .i64 a0_3, .int .i64 a0_4]] w fun e w' => e = .returned (.bool r) ∧ Below w.heap.size w w' := by
 have hu42 := Try.underlying42
 have HB := Aside0.mk (Below.refl w.heap.size w)
 have H : ((stat_numbers.f a0_0 a0_1 a0_2 a0_3 a0_4).bind fun t116 => (stat_fits.l0 k t116 (t116.length : Int) 0 a0_0 a0_1 a0_2 a0_3 a0_4)) = some r := h
 clear h
 replace H := Option.bind_eq_some_iff.mp H
 obtain ⟨t116, A20, H⟩ := H
 replace H : (stat_fits.l0 k t116 (t116.length : Int) 0 a0_0 a0_1 a0_2 a0_3 a0_4) = some r := H
 have A2 := Aside0.mk A20
 clear A20
 have H' := Aside0.mk H
 clear H
 go_enter Try.func31, Try.ntmps31
 go_wp2_with (first | ((with_reducible refine gate_dst (N := 1) rfl ?_); refine box_event ?hg (N := 1) ?hd (cs := #[.int .i64 a0_0, .int .i64 a0_1, .int .i64 a0_2, .int .i64 a0_3, .int .i64 a0_4]) (t := 42) ?hr ?_; (case hd => rfl); (case hg => rfl); (case hr => first | (go_simp; done) | (go_simp; rfl)); intro gb115 hg w3 hbox hb; have n0_ := Aside0.mk (below_step (by repeat (first | (with_reducible first | exact HB.out | apply below_alloc | apply pw_below_drewN | apply below_drew1) | exact HB.out)) hb); have n1_ := Aside0.mk (hbox); have n2_ := Aside0.mk ((by rw [hg]; exact (below_size (by repeat (first | (with_reducible first | exact HB.out | apply below_alloc | apply pw_below_drewN | apply below_drew1) | exact HB.out))) : w.heap.size ≤ gb115)); have n3_ := Aside0.mk ((by rw [hg]; exact (below_size (by repeat (first | (with_reducible first | exact HB.out | apply below_alloc | apply pw_below_drewN | apply below_drew1) | exact HB.out))) : w.heap.size ≤ gb115)); clear HB; have HB := n0_; have BK115 := n1_; have GW115 := n2_; have GE115 := n3_; clear n0_ n1_ n2_ n3_; clear hb hbox hg; have hcz4_0 : w3.cell? ⟨gb115, 0, none⟩ = some (.int .i64 a0_0) := (blk_cell BK115.out 0).trans rfl; have hcz4_1 : w3.cell? ⟨gb115, 1, none⟩ = some (.int .i64 a0_1) := (blk_cell BK115.out 1).trans rfl; have hcz4_2 : w3.cell? ⟨gb115, 2, none⟩ = some (.int .i64 a0_2) := (blk_cell BK115.out 2).trans rfl; have hcz4_3 : w3.cell? ⟨gb115, 3, none⟩ = some (.int .i64 a0_3) := (blk_cell BK115.out 3).trans rfl; have hcz4_4 : w3.cell? ⟨gb115, 4, none⟩ = some (.int .i64 a0_4) := (blk_cell BK115.out 4).trans rfl; have hfz4_0 := blk_frozen BK115.out 0; have hfz4_1 := blk_frozen BK115.out 1; have hfz4_2 := blk_frozen BK115.out 2; have hfz4_3 := blk_frozen BK115.out 3; have hfz4_4 := blk_frozen BK115.out 4) | ((with_reducible refine gate_callee (f := 37) rfl ?_); refine goesL_ (some 6) rfl rfl Try.func37 (by kernel_rfl) rfl #[.agg #[.int .i64 a0_0, .int .i64 a0_1, .int .i64 a0_2, .int .i64 a0_3, .int .i64 a0_4]] rfl (by (try simp only [List.map_toArray, List.map_cons, List.map_nil]); first | done | rfl | (simp only [List.length_drop, List.length_take]; rfl)) ?_; (with_reducible refine (stat_numbers.calls a0_0 a0_1 a0_2 a0_3 a0_4 t116 _ A2.out).mono ?_); rintro e w5 ⟨v117, rfl, ho0, hb⟩; refine ⟨_, rfl, ?_⟩; have n0_ := Aside0.mk (Kd.R_lower ho0 (below_size (by repeat (first | (with_reducible first | exact HB.out | apply below_alloc | apply pw_below_drewN | apply below_drew1 | refine below_set ?_ GE115.out) | exact HB.out)))); have n1_ := Aside0.mk (blk_below (g := gb115) (o := .cells #[.int .i64 a0_0, .int .i64 a0_1, .int .i64 a0_2, .int .i64 a0_3, .int .i64 a0_4] 42 (0, 0)) (by (with_reducible repeat (first | refine blk_drewN ?_ _ | refine blk_drew ?_ | refine blk_alloc ?_ _)); exact BK115.out) hb); have n2_ := Aside0.mk (below_step (by repeat (first | (with_reducible first | exact HB.out | apply below_alloc | apply pw_below_drewN | apply below_drew1 | refine below_set ?_ GE115.out) | exact HB.out)) hb); clear BK115; clear HB; have HO118 := n0_; have BK115 := n1_; have HB := n2_; clear n0_ n1_ n2_; (try clear hb); (try clear hb2); (try clear hk); (try clear hi); (try clear ho0); obtain ⟨Ao6, co6, eo6⟩ := Kd.R_slice HO118.out; subst eo6))
 go_loopg [8] k (fun kq v8 w' => ∃ (x8_1 : Int), v8 = .int .i64 x8_1 ∧ Aside0 (stat_fits.l0 kq t116 (t116.length : Int) x8_1 a0_0 a0_1 a0_2 a0_3 a0_4 = some r) ∧ Aside0 (kq ≤ k) ∧ Aside0 (Kd.R (Kd.int .i64) 3 w' w.heap.size (fun _ => True) (.slice Ao6 t116.length co6) t116) ∧ Aside0 (w'.heap[gb115]? = some (.cells #[.int .i64 a0_0, .int .i64 a0_1, .int .i64 a0_2, .int .i64 a0_3, .int .i64 a0_4] 42 (0, 0))) ∧ Aside0 (Below w.heap.size w w'))
 case atStart => exact ⟨(0), (by first | rfl | (simp; done) | (simp [*]; done)), H', ⟨Nat.le_refl _⟩, ⟨by (with_reducible repeat (first | apply Kd.R_alloc | apply Kd.R_drewN | apply Kd.R_drew)); exact HO118.out⟩, ⟨by (with_reducible repeat (first | refine blk_drewN ?_ _ | refine blk_drew ?_ | refine blk_alloc ?_ _)); exact BK115.out⟩, ⟨by repeat (first | (with_reducible first | exact HB.out | apply below_alloc | apply pw_below_drewN | apply below_drew1 | refine below_set ?_ GE115.out) | exact HB.out)⟩⟩
 case round =>
  clear H'
  try clear p2
  try clear c3
  try clear hcz4_0
  try clear hcz4_1
  try clear hcz4_2
  try clear hcz4_3
  try clear hcz4_4
  try clear hfz4_0
  try clear hfz4_1
  try clear hfz4_2
  try clear hfz4_3
  try clear hfz4_4
  obtain ⟨x8_1, rfl, HA, HK1, HO_6, BK115, HB⟩ := hrel
  cases gk with
  | zero => exact absurd HA.out (by simp [stat_fits.l0])
  | succ k1 =>
   have H := HA.out
   clear HA
   simp only [stat_fits.l0] at H
   by_cases c7 : x8_1 < (t116.length : Int)
   ·rw [if_pos c7] at H
    have c7b0 : decide (x8_1 < (t116.length : Int)) = true := decide_eq_true c7
    clear c7
    by_cases c8 : 0 ≤ x8_1
    ·rw [if_pos c8] at H
     have c8b0 : decide (0 ≤ x8_1) = true := decide_eq_true c8
     clear c8
     by_cases c9 : x8_1 < (t116.length : Int)
     ·rw [if_pos c9] at H
      have c9b0 : decide (x8_1 < (t116.length : Int)) = true := decide_eq_true c9
      clear c9
      by_cases c10 : (rd t116 x8_1) < 0
      ·rw [if_pos c10] at H
       have c10b0 : decide ((rd t116 x8_1) < 0) = true := decide_eq_true c10
       clear c10
       obtain rfl := Option.some.inj H
       have p119 : 0 ≤ (x8_1 : Int) := of_decide_eq_true (by first | (with_reducible assumption) | assumption)
       have q119 : x8_1 < (t116.length : Int) := of_decide_eq_true (by first | (with_reducible assumption) | assumption)
       obtain ⟨ad119, e119, hx119_0⟩ := Kd.at_int (Kd.R_reads' HO_6.out).2.2 x8_1 p119 q119
       cases e119
       replace p119 := eq_true p119
       replace q119 := eq_true q119
       go_wp2
       go_ret
       exact ⟨by first | rfl | (simp [errW_none, errW_some] <;> rfl) | (simp [*, errW_none, errW_some] <;> rfl), by repeat (first | (with_reducible first | exact HB.out | apply below_alloc | apply pw_below_drewN | apply below_drew1 | refine below_set ?_ GE115.out) | exact HB.out)⟩
      ·rw [if_neg c10] at H
       have c10b0 : decide ((rd t116 x8_1) < 0) = false := decide_eq_false c10
       clear c10
       by_cases c11 : (rd t116 x8_1) > 1073741824
       ·rw [if_pos c11] at H
        have c11b0 : decide (1073741824 < (rd t116 x8_1)) = true := decide_eq_true c11
        clear c11
        obtain rfl := Option.some.inj H
        have p119 : 0 ≤ (x8_1 : Int) := of_decide_eq_true (by first | (with_reducible assumption) | assumption)
        have q119 : x8_1 < (t116.length : Int) := of_decide_eq_true (by first | (with_reducible assumption) | assumption)
        obtain ⟨ad119, e119, hx119_0⟩ := Kd.at_int (Kd.R_reads' HO_6.out).2.2 x8_1 p119 q119
        cases e119
        replace p119 := eq_true p119
        replace q119 := eq_true q119
        go_wp2
        go_ret
        exact ⟨by first | rfl | (simp [errW_none, errW_some] <;> rfl) | (simp [*, errW_none, errW_some] <;> rfl), by repeat (first | (with_reducible first | exact HB.out | apply below_alloc | apply pw_below_drewN | apply below_drew1 | refine below_set ?_ GE115.out) | exact HB.out)⟩
       ·rw [if_neg c11] at H
        have c11b0 : decide (1073741824 < (rd t116 x8_1)) = false := decide_eq_false c11
        clear c11
        have H' := Aside0.mk H
        clear H
        have p119 : 0 ≤ (x8_1 : Int) := of_decide_eq_true (by first | (with_reducible assumption) | assumption)
        have q119 : x8_1 < (t116.length : Int) := of_decide_eq_true (by first | (with_reducible assumption) | assumption)
        obtain ⟨ad119, e119, hx119_0⟩ := Kd.at_int (Kd.R_reads' HO_6.out).2.2 x8_1 p119 q119
        cases e119
        replace p119 := eq_true p119
        replace q119 := eq_true q119
        go_wp2
        go_roundg k1
        case measure => have := HK1.out; omega
        case rel => exact ⟨(wrap64 (x8_1 + 1)), (by first | rfl | (simp; done) | (simp [*]; done)), H', ⟨by have := HK1.out; omega⟩, ⟨by (with_reducible repeat (first | apply Kd.R_alloc | apply Kd.R_drewN | apply Kd.R_drew)); exact HO_6.out⟩, ⟨by (with_reducible repeat (first | refine blk_drewN ?_ _ | refine blk_drew ?_ | refine blk_alloc ?_ _)); exact BK115.out⟩, ⟨by repeat (first | (with_reducible first | exact HB.out | apply below_alloc | apply pw_below_drewN | apply below_drew1 | refine below_set ?_ GE115.out) | exact HB.out)⟩⟩
     ·rw [if_neg c9] at H
      exact absurd H (by simp)
    ·rw [if_neg c8] at H
     exact absurd H (by simp)
   ·rw [if_neg c7] at H
    have c7b0 : decide (x8_1 < (t116.length : Int)) = false := decide_eq_false c7
    clear c7
    by_cases c12 : a0_0 ≥ 1
    ·rw [if_pos c12] at H
     have c12b0 : decide (1 ≤ a0_0) = true := decide_eq_true c12
     clear c12
     by_cases c13 : a0_0 ≤ 14
     ·rw [if_pos c13] at H
      have c13b0 : decide (a0_0 ≤ 14) = true := decide_eq_true c13
      clear c13
      replace H := Option.bind_eq_some_iff.mp H
      obtain ⟨t120, A140, H⟩ := H
      replace H : (some (decide (t120 > 0))) = some r := H
      have A14 := Aside0.mk A140
      clear A140
      obtain rfl := Option.some.inj H
      have hcz15_0 : wr.cell? ⟨gb115, 0, none⟩ = some (.int .i64 a0_0) := (blk_cell BK115.out 0).trans rfl
      have hcz15_1 : wr.cell? ⟨gb115, 1, none⟩ = some (.int .i64 a0_1) := (blk_cell BK115.out 1).trans rfl
      have hcz15_2 : wr.cell? ⟨gb115, 2, none⟩ = some (.int .i64 a0_2) := (blk_cell BK115.out 2).trans rfl
      have hcz15_3 : wr.cell? ⟨gb115, 3, none⟩ = some (.int .i64 a0_3) := (blk_cell BK115.out 3).trans rfl
      have hcz15_4 : wr.cell? ⟨gb115, 4, none⟩ = some (.int .i64 a0_4) := (blk_cell BK115.out 4).trans rfl
      have hfz15_0 := blk_frozen BK115.out 0
      have hfz15_1 := blk_frozen BK115.out 1
      have hfz15_2 := blk_frozen BK115.out 2
      have hfz15_3 := blk_frozen BK115.out 3
      have hfz15_4 := blk_frozen BK115.out 4
      go_wp2_with (first | (go_at_call 29; (with_reducible refine (stat_total.calls a0_0 a0_1 a0_2 a0_3 a0_4 t120 _ A14.out).mono ?_); rintro e w16 ⟨rfl, hb⟩; have n0_ := Aside0.mk (Kd.R_below (by (with_reducible repeat (first | apply Kd.R_alloc | apply Kd.R_drewN | apply Kd.R_drew)); exact HO_6.out) hb); have n1_ := Aside0.mk (blk_below (g := gb115) (o := .cells #[.int .i64 a0_0, .int .i64 a0_1, .int .i64 a0_2, .int .i64 a0_3, .int .i64 a0_4] 42 (0, 0)) (by (with_reducible repeat (first | refine blk_drewN ?_ _ | refine blk_drew ?_ | refine blk_alloc ?_ _)); exact BK115.out) hb); have n2_ := Aside0.mk (below_step (by repeat (first | (with_reducible first | exact HB.out | apply below_alloc | apply pw_below_drewN | apply below_drew1 | refine below_set ?_ GE115.out) | exact HB.out)) hb); clear HO_6; clear BK115; clear HB; have HO_6 := n0_; have BK115 := n1_; have HB := n2_; clear n0_ n1_ n2_; (try clear hb); (try clear hb2); (try clear hk); (try clear hi)))
      go_ret
      exact ⟨by first | rfl | (simp [errW_none, errW_some] <;> rfl) | (simp [*, errW_none, errW_some] <;> rfl), by repeat (first | (with_reducible first | exact HB.out | apply below_alloc | apply pw_below_drewN | apply below_drew1 | refine below_set ?_ GE115.out) | exact HB.out)⟩
     ·rw [if_neg c13] at H
      have c13b0 : decide (a0_0 ≤ 14) = false := decide_eq_false c13
      clear c13
      obtain rfl := Option.some.inj H
      have hcz17_0 : wr.cell? ⟨gb115, 0, none⟩ = some (.int .i64 a0_0) := (blk_cell BK115.out 0).trans rfl
      have hcz17_1 : wr.cell? ⟨gb115, 1, none⟩ = some (.int .i64 a0_1) := (blk_cell BK115.out 1).trans rfl
      have hcz17_2 : wr.cell? ⟨gb115, 2, none⟩ = some (.int .i64 a0_2) := (blk_cell BK115.out 2).trans rfl
      have hcz17_3 : wr.cell? ⟨gb115, 3, none⟩ = some (.int .i64 a0_3) := (blk_cell BK115.out 3).trans rfl
      have hcz17_4 : wr.cell? ⟨gb115, 4, none⟩ = some (.int .i64 a0_4) := (blk_cell BK115.out 4).trans rfl
      have hfz17_0 := blk_frozen BK115.out 0
      have hfz17_1 := blk_frozen BK115.out 1
      have hfz17_2 := blk_frozen BK115.out 2
      have hfz17_3 := blk_frozen BK115.out 3
      have hfz17_4 := blk_frozen BK115.out 4
      go_wp2
      go_ret
      exact ⟨by first | rfl | (simp [errW_none, errW_some] <;> rfl) | (simp [*, errW_none, errW_some] <;> rfl), by repeat (first | (with_reducible first | exact HB.out | apply below_alloc | apply pw_below_drewN | apply below_drew1 | refine below_set ?_ GE115.out) | exact HB.out)⟩
    ·rw [if_neg c12] at H
     have c12b0 : decide (1 ≤ a0_0) = false := decide_eq_false c12
     clear c12
     obtain rfl := Option.some.inj H
     have hcz18_0 : wr.cell? ⟨gb115, 0, none⟩ = some (.int .i64 a0_0) := (blk_cell BK115.out 0).trans rfl
     have hcz18_1 : wr.cell? ⟨gb115, 1, none⟩ = some (.int .i64 a0_1) := (blk_cell BK115.out 1).trans rfl
     have hcz18_2 : wr.cell? ⟨gb115, 2, none⟩ = some (.int .i64 a0_2) := (blk_cell BK115.out 2).trans rfl
     have hcz18_3 : wr.cell? ⟨gb115, 3, none⟩ = some (.int .i64 a0_3) := (blk_cell BK115.out 3).trans rfl
     have hcz18_4 : wr.cell? ⟨gb115, 4, none⟩ = some (.int .i64 a0_4) := (blk_cell BK115.out 4).trans rfl
     have hfz18_0 := blk_frozen BK115.out 0
     have hfz18_1 := blk_frozen BK115.out 1
     have hfz18_2 := blk_frozen BK115.out 2
     have hfz18_3 := blk_frozen BK115.out 3
     have hfz18_4 := blk_frozen BK115.out 4
     go_wp2
     go_ret
     exact ⟨by first | rfl | (simp [errW_none, errW_some] <;> rfl) | (simp [*, errW_none, errW_some] <;> rfl), by repeat (first | (with_reducible first | exact HB.out | apply below_alloc | apply pw_below_drewN | apply below_drew1 | refine below_set ?_ GE115.out) | exact HB.out)⟩

end Go.Proofs.Ytcmknnhhbcgoiaa.QN
