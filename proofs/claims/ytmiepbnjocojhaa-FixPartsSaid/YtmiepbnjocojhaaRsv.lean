/- The machine's side of fix.Resolve, last part: Resolve gives what a plain Lean function of lists says. -/
import Derived.Test.YtmiepbnjocojhaaTak
import Derived.Deep.DeepMust
namespace Go.Proofs.Ytmiepbnjocojhaa.QN
open Go.RowKit Go.Proofs.YtmiepbnjocojhaaW.PrintWords Go.Proofs.YtmiepbnjocojhaaW.PrintLast Go.Proofs.YtmiepbnjocojhaaW.PrintMore
set_option linter.unusedVariables false
set_option linter.unusedSimpArgs false


section
attribute [local go_sem] max2_int min2_int max_two min_two max_three min_three max_four min_four
/-! ### fixr: function 19 -/
def fixr.f (a0_0 : ByteArray) (a0_1 : Int) (a0_2 : Int) (a0_3 : Int) (a0_4 : Int) : Option (Bool) := if a0_1 ≥ 0 then (if a0_1 ≤ 2 then (if a0_2 ≥ 0 then (some (decide (a0_2 ≤ 9))) else (some false)) else (some false)) else (some false)
set_option maxHeartbeats 8000000 in
set_option maxRecDepth 100000 in
theorem fixr.calls (a0_0 : ByteArray) (a0_1 : Int) (a0_2 : Int) (a0_3 : Int) (a0_4 : Int) (r : Bool) (w : World) (h : fixr.f a0_0 a0_1 a0_2 a0_3 a0_4 = some r) :
    Calls Try.prog 19 #[.agg #[.string a0_0, .int .i64 a0_1, .int .i64 a0_2, .int .i64 a0_3, .int .i64 a0_4]] w fun e w' => e = .returned (.bool r) ∧ Below w.heap.size w w' := by
  have hu36 := Try.underlying36
  have HB := Aside0.mk (Below.refl w.heap.size w)
  have H : (if a0_1 ≥ 0 then (if a0_1 ≤ 2 then (if a0_2 ≥ 0 then (some (decide (a0_2 ≤ 9))) else (some false)) else (some false)) else (some false)) = some r := h
  clear h
  by_cases c2 : a0_1 ≥ 0
  · rw [if_pos c2] at H
    have c2b0 : decide (0 ≤ a0_1) = true := decide_eq_true c2
    clear c2
    by_cases c3 : a0_1 ≤ 2
    · rw [if_pos c3] at H
      have c3b0 : decide (a0_1 ≤ 2) = true := decide_eq_true c3
      clear c3
      by_cases c4 : a0_2 ≥ 0
      · rw [if_pos c4] at H
        have c4b0 : decide (0 ≤ a0_2) = true := decide_eq_true c4
        clear c4
        obtain rfl := Option.some.inj H
        go_enter Try.func19, Try.ntmps19
        go_wp2_with (first | ((with_reducible refine gate_dst (N := 1) rfl ?_); refine box_event ?hg (N := 1) ?hd (cs := #[.string a0_0, .int .i64 a0_1, .int .i64 a0_2, .int .i64 a0_3, .int .i64 a0_4]) (t := 36) ?hr ?_; (case hd => rfl); (case hg => rfl); (case hr => first | (go_simp; done) | (go_simp; rfl)); intro gb101 hg w5 hbox hb; have n0_ := Aside0.mk (below_step (by repeat (first | (with_reducible first | exact HB.out | apply below_alloc | apply pw_below_drewN | apply below_drew1) | exact HB.out)) hb); have n1_ := Aside0.mk (hbox); have n2_ := Aside0.mk ((by rw [hg]; exact (below_size (by repeat (first | (with_reducible first | exact HB.out | apply below_alloc | apply pw_below_drewN | apply below_drew1) | exact HB.out))) : w.heap.size ≤ gb101)); have n3_ := Aside0.mk ((by rw [hg]; exact (below_size (by repeat (first | (with_reducible first | exact HB.out | apply below_alloc | apply pw_below_drewN | apply below_drew1) | exact HB.out))) : w.heap.size ≤ gb101)); clear HB; have HB := n0_; have BK101 := n1_; have GW101 := n2_; have GE101 := n3_; clear n0_ n1_ n2_ n3_; clear hb hbox hg; have hcz6_0 : w5.cell? ⟨gb101, 0, none⟩ = some (.string a0_0) := (blk_cell BK101.out 0).trans rfl; have hcz6_1 : w5.cell? ⟨gb101, 1, none⟩ = some (.int .i64 a0_1) := (blk_cell BK101.out 1).trans rfl; have hcz6_2 : w5.cell? ⟨gb101, 2, none⟩ = some (.int .i64 a0_2) := (blk_cell BK101.out 2).trans rfl; have hcz6_3 : w5.cell? ⟨gb101, 3, none⟩ = some (.int .i64 a0_3) := (blk_cell BK101.out 3).trans rfl; have hcz6_4 : w5.cell? ⟨gb101, 4, none⟩ = some (.int .i64 a0_4) := (blk_cell BK101.out 4).trans rfl; have hfz6_0 := blk_frozen BK101.out 0; have hfz6_1 := blk_frozen BK101.out 1; have hfz6_2 := blk_frozen BK101.out 2; have hfz6_3 := blk_frozen BK101.out 3; have hfz6_4 := blk_frozen BK101.out 4))
        go_ret
        exact ⟨by first | rfl | (simp [errW_none, errW_some] <;> rfl) | (simp [*, errW_none, errW_some] <;> rfl), by repeat (first | (with_reducible first | exact HB.out | apply below_alloc | apply pw_below_drewN | apply below_drew1 | refine below_set ?_ GE101.out) | exact HB.out)⟩
      · rw [if_neg c4] at H
        have c4b0 : decide (0 ≤ a0_2) = false := decide_eq_false c4
        clear c4
        obtain rfl := Option.some.inj H
        go_enter Try.func19, Try.ntmps19
        go_wp2_with (first | ((with_reducible refine gate_dst (N := 1) rfl ?_); refine box_event ?hg (N := 1) ?hd (cs := #[.string a0_0, .int .i64 a0_1, .int .i64 a0_2, .int .i64 a0_3, .int .i64 a0_4]) (t := 36) ?hr ?_; (case hd => rfl); (case hg => rfl); (case hr => first | (go_simp; done) | (go_simp; rfl)); intro gb101 hg w7 hbox hb; have n0_ := Aside0.mk (below_step (by repeat (first | (with_reducible first | exact HB.out | apply below_alloc | apply pw_below_drewN | apply below_drew1) | exact HB.out)) hb); have n1_ := Aside0.mk (hbox); have n2_ := Aside0.mk ((by rw [hg]; exact (below_size (by repeat (first | (with_reducible first | exact HB.out | apply below_alloc | apply pw_below_drewN | apply below_drew1) | exact HB.out))) : w.heap.size ≤ gb101)); have n3_ := Aside0.mk ((by rw [hg]; exact (below_size (by repeat (first | (with_reducible first | exact HB.out | apply below_alloc | apply pw_below_drewN | apply below_drew1) | exact HB.out))) : w.heap.size ≤ gb101)); clear HB; have HB := n0_; have BK101 := n1_; have GW101 := n2_; have GE101 := n3_; clear n0_ n1_ n2_ n3_; clear hb hbox hg; have hcz8_0 : w7.cell? ⟨gb101, 0, none⟩ = some (.string a0_0) := (blk_cell BK101.out 0).trans rfl; have hcz8_1 : w7.cell? ⟨gb101, 1, none⟩ = some (.int .i64 a0_1) := (blk_cell BK101.out 1).trans rfl; have hcz8_2 : w7.cell? ⟨gb101, 2, none⟩ = some (.int .i64 a0_2) := (blk_cell BK101.out 2).trans rfl; have hcz8_3 : w7.cell? ⟨gb101, 3, none⟩ = some (.int .i64 a0_3) := (blk_cell BK101.out 3).trans rfl; have hcz8_4 : w7.cell? ⟨gb101, 4, none⟩ = some (.int .i64 a0_4) := (blk_cell BK101.out 4).trans rfl; have hfz8_0 := blk_frozen BK101.out 0; have hfz8_1 := blk_frozen BK101.out 1; have hfz8_2 := blk_frozen BK101.out 2; have hfz8_3 := blk_frozen BK101.out 3; have hfz8_4 := blk_frozen BK101.out 4))
        go_ret
        exact ⟨by first | rfl | (simp [errW_none, errW_some] <;> rfl) | (simp [*, errW_none, errW_some] <;> rfl), by repeat (first | (with_reducible first | exact HB.out | apply below_alloc | apply pw_below_drewN | apply below_drew1 | refine below_set ?_ GE101.out) | exact HB.out)⟩
    · rw [if_neg c3] at H
      have c3b0 : decide (a0_1 ≤ 2) = false := decide_eq_false c3
      clear c3
      obtain rfl := Option.some.inj H
      go_enter Try.func19, Try.ntmps19
      go_wp2_with (first | ((with_reducible refine gate_dst (N := 1) rfl ?_); refine box_event ?hg (N := 1) ?hd (cs := #[.string a0_0, .int .i64 a0_1, .int .i64 a0_2, .int .i64 a0_3, .int .i64 a0_4]) (t := 36) ?hr ?_; (case hd => rfl); (case hg => rfl); (case hr => first | (go_simp; done) | (go_simp; rfl)); intro gb101 hg w9 hbox hb; have n0_ := Aside0.mk (below_step (by repeat (first | (with_reducible first | exact HB.out | apply below_alloc | apply pw_below_drewN | apply below_drew1) | exact HB.out)) hb); have n1_ := Aside0.mk (hbox); have n2_ := Aside0.mk ((by rw [hg]; exact (below_size (by repeat (first | (with_reducible first | exact HB.out | apply below_alloc | apply pw_below_drewN | apply below_drew1) | exact HB.out))) : w.heap.size ≤ gb101)); have n3_ := Aside0.mk ((by rw [hg]; exact (below_size (by repeat (first | (with_reducible first | exact HB.out | apply below_alloc | apply pw_below_drewN | apply below_drew1) | exact HB.out))) : w.heap.size ≤ gb101)); clear HB; have HB := n0_; have BK101 := n1_; have GW101 := n2_; have GE101 := n3_; clear n0_ n1_ n2_ n3_; clear hb hbox hg; have hcz10_0 : w9.cell? ⟨gb101, 0, none⟩ = some (.string a0_0) := (blk_cell BK101.out 0).trans rfl; have hcz10_1 : w9.cell? ⟨gb101, 1, none⟩ = some (.int .i64 a0_1) := (blk_cell BK101.out 1).trans rfl; have hcz10_2 : w9.cell? ⟨gb101, 2, none⟩ = some (.int .i64 a0_2) := (blk_cell BK101.out 2).trans rfl; have hcz10_3 : w9.cell? ⟨gb101, 3, none⟩ = some (.int .i64 a0_3) := (blk_cell BK101.out 3).trans rfl; have hcz10_4 : w9.cell? ⟨gb101, 4, none⟩ = some (.int .i64 a0_4) := (blk_cell BK101.out 4).trans rfl; have hfz10_0 := blk_frozen BK101.out 0; have hfz10_1 := blk_frozen BK101.out 1; have hfz10_2 := blk_frozen BK101.out 2; have hfz10_3 := blk_frozen BK101.out 3; have hfz10_4 := blk_frozen BK101.out 4))
      go_ret
      exact ⟨by first | rfl | (simp [errW_none, errW_some] <;> rfl) | (simp [*, errW_none, errW_some] <;> rfl), by repeat (first | (with_reducible first | exact HB.out | apply below_alloc | apply pw_below_drewN | apply below_drew1 | refine below_set ?_ GE101.out) | exact HB.out)⟩
  · rw [if_neg c2] at H
    have c2b0 : decide (0 ≤ a0_1) = false := decide_eq_false c2
    clear c2
    obtain rfl := Option.some.inj H
    go_enter Try.func19, Try.ntmps19
    go_wp2_with (first | ((with_reducible refine gate_dst (N := 1) rfl ?_); refine box_event ?hg (N := 1) ?hd (cs := #[.string a0_0, .int .i64 a0_1, .int .i64 a0_2, .int .i64 a0_3, .int .i64 a0_4]) (t := 36) ?hr ?_; (case hd => rfl); (case hg => rfl); (case hr => first | (go_simp; done) | (go_simp; rfl)); intro gb101 hg w11 hbox hb; have n0_ := Aside0.mk (below_step (by repeat (first | (with_reducible first | exact HB.out | apply below_alloc | apply pw_below_drewN | apply below_drew1) | exact HB.out)) hb); have n1_ := Aside0.mk (hbox); have n2_ := Aside0.mk ((by rw [hg]; exact (below_size (by repeat (first | (with_reducible first | exact HB.out | apply below_alloc | apply pw_below_drewN | apply below_drew1) | exact HB.out))) : w.heap.size ≤ gb101)); have n3_ := Aside0.mk ((by rw [hg]; exact (below_size (by repeat (first | (with_reducible first | exact HB.out | apply below_alloc | apply pw_below_drewN | apply below_drew1) | exact HB.out))) : w.heap.size ≤ gb101)); clear HB; have HB := n0_; have BK101 := n1_; have GW101 := n2_; have GE101 := n3_; clear n0_ n1_ n2_ n3_; clear hb hbox hg; have hcz12_0 : w11.cell? ⟨gb101, 0, none⟩ = some (.string a0_0) := (blk_cell BK101.out 0).trans rfl; have hcz12_1 : w11.cell? ⟨gb101, 1, none⟩ = some (.int .i64 a0_1) := (blk_cell BK101.out 1).trans rfl; have hcz12_2 : w11.cell? ⟨gb101, 2, none⟩ = some (.int .i64 a0_2) := (blk_cell BK101.out 2).trans rfl; have hcz12_3 : w11.cell? ⟨gb101, 3, none⟩ = some (.int .i64 a0_3) := (blk_cell BK101.out 3).trans rfl; have hcz12_4 : w11.cell? ⟨gb101, 4, none⟩ = some (.int .i64 a0_4) := (blk_cell BK101.out 4).trans rfl; have hfz12_0 := blk_frozen BK101.out 0; have hfz12_1 := blk_frozen BK101.out 1; have hfz12_2 := blk_frozen BK101.out 2; have hfz12_3 := blk_frozen BK101.out 3; have hfz12_4 := blk_frozen BK101.out 4))
    go_ret
    exact ⟨by first | rfl | (simp [errW_none, errW_some] <;> rfl) | (simp [*, errW_none, errW_some] <;> rfl), by repeat (first | (with_reducible first | exact HB.out | apply below_alloc | apply pw_below_drewN | apply below_drew1 | refine below_set ?_ GE101.out) | exact HB.out)⟩

-- NOT PRINTED: function 21 (fix_grouping_reduce)

-- NOT PRINTED: function 20 (fix_grouping_takes)

-- NOT PRINTED: function 9 (fix_Resolve)
end

def rightR (f : S36) : Prop := 0 ≤ f.f1 ∧ f.f1 ≤ 2 ∧ 0 ≤ f.f2 ∧ f.f2 ≤ 9
instance : DecidablePred rightR := fun f => inferInstanceAs (Decidable (0 ≤ f.f1 ∧ f.f1 ≤ 2 ∧ 0 ≤ f.f2 ∧ f.f2 ≤ 9))
theorem right_f (f : S36) : fixr.f f.f0 f.f1 f.f2 f.f3.f0 f.f3.f1 = some (decide (rightR f)) := by
  unfold fixr.f
  by_cases h1 : f.f1 ≥ 0
  · by_cases h2 : f.f1 ≤ 2
    · by_cases h3 : f.f2 ≥ 0
      · simp only [rightR, if_pos h1, if_pos h2, if_pos h3]
        congr 1
        apply decide_eq_decide.mpr
        constructor
        · intro h; exact ⟨h1, h2, h3, h⟩
        · intro h; exact h.2.2.2
      · rw [if_pos h1, if_pos h2, if_neg h3]; congr 1; symm; apply decide_eq_false; rintro ⟨_, _, h, _⟩; exact h3 h
    · rw [if_pos h1, if_neg h2]; congr 1; symm; apply decide_eq_false; rintro ⟨_, h, _, _⟩; exact h2 h
  · rw [if_neg h1]; congr 1; symm; apply decide_eq_false; rintro ⟨h, _, _, _⟩; exact h1 h
/-- The first operator that may not be. -/
def badFrom : List S36 → Int → Option Int
  | [], _ => none
  | f :: r, i => if rightR f then badFrom r (i + 1) else some i
/-- The rows after each operator was taken, or the first that clashes. -/
def takeFrom (l : List S36) : List S36 → Int → List Int → List S32 → List S32 → Int ⊕ (List Int × List S32 × List S32)
  | [], _, rs, rd, os => .inr (rs, rd, os)
  | f :: r, i, rs, rd, os => if (takesR f l i rs rd os).1 = true then takeFrom l r (i + 1) (takesR f l i rs rd os).2.1 (takesR f l i rs rd os).2.2.1 (takesR f l i rs rd os).2.2.2 else .inl i
/-- What is left to group. -/
def redAll : List Int → List S32 → List S32 → List S32
  | t :: rs, y :: x :: rd, os => redAll rs (⟨x.f0, y.f1⟩ :: rd) (os.set t.toNat ⟨x.f0, y.f1⟩)
  | _, _, os => os
def outOf : Int ⊕ (List Int × List S32 × List S32) → Option (List S32 × Int × Int)
  | .inl i => some ([], i, 50)
  | .inr (rs, rd, os) => some (redAll rs rd os, 0, 0)
def fix_Resolve.f (l : List S36) : Option (List S32 × Int × Int) :=
  if (l.length : Int) > 1024 then some ([], 0, 2)
  else match badFrom l 0 with
    | some i => some ([], i, 1)
    | none => outOf (takeFrom l l 0 [] [⟨0, 0⟩] (List.replicate l.length ⟨0, 0⟩))

theorem takesR_inv {n : Nat} {f : S36} {l : List S36} {k : Int} (hk0 : 0 ≤ k) (hk1 : k < n) : ∀ (rs : List Int) (rd os : List S32), Inv n rs rd os → rs.length ≤ 1024 → (takesR f l k rs rd os).1 = true →
    Inv n (takesR f l k rs rd os).2.1 (takesR f l k rs rd os).2.2.1 (takesR f l k rs rd os).2.2.2 ∧ (takesR f l k rs rd os).2.1.length ≤ rs.length + 1
  | [], rd, os, hI, hl, _ => by
    simp only [takesR]
    refine ⟨⟨?_, ?_, hI.ol, hI.nl, ?_⟩, by simp⟩
    · intro t ht; simp at ht; subst ht; exact ⟨hk0, hk1⟩
    · have := hI.dl; simp at this ⊢; omega
    · simp
  | t :: rs, rd, os, hI, hl, h => by
    have hdl := hI.dl
    match rd, hdl with
    | y :: x :: rd2, _ =>
      by_cases c1 : f.f2 < (rd_T36 l t).f2 ∨ (f.f2 = (rd_T36 l t).f2 ∧ (rd_T36 l t).f1 = 1 ∧ f.f1 = 1)
      · simp only [takesR, if_pos c1] at h ⊢
        have := takesR_inv hk0 hk1 rs _ _ (hI.tail ⟨x.f0, y.f1⟩ ⟨x.f0, y.f1⟩ t.toNat) (by simp at hl; omega) h
        refine ⟨this.1, ?_⟩
        have := this.2
        simp; omega
      · by_cases c2 : (rd_T36 l t).f2 < f.f2 ∨ ((rd_T36 l t).f1 = 2 ∧ f.f1 = 2)
        · simp only [takesR, if_neg c1, if_pos c2]
          refine ⟨⟨?_, ?_, hI.ol, hI.nl, ?_⟩, by simp⟩
          · intro q hq
            rcases List.mem_cons.mp hq with rfl | hq
            · exact ⟨hk0, hk1⟩
            · exact hI.wr q hq
          · have := hI.dl; simp at this ⊢; omega
          · simp at hl ⊢; omega
        · simp only [takesR, if_neg c1, if_neg c2] at h
          exact absurd h (by simp)
theorem drop_S36 (l : List S36) (i : Nat) (h : i < l.length) : l.drop i = rd_T36 l (i : Int) :: l.drop (i + 1) := by
  rw [List.drop_eq_getElem_cons h]
  simp [rd_T36, List.getD, h]

set_option maxHeartbeats 4000000 in
set_option maxRecDepth 100000 in
theorem fix_Resolve.calls (A0 : Option Addr) (c0 : Nat) (l0 : List S36) (r1 : List S32) (r2 : Int) (r3 : Int) (w : World) (hr0 : Kd.C k36 w A0 l0.length l0) (hc0 : l0.length ≤ c0) (h : fix_Resolve.f l0 = some (r1, r2, r3)) :
    Calls Try.prog 9 #[.slice A0 l0.length c0] w fun e w' => ∃ v0_ : Value, e = .returned (.tuple #[v0_, .int .i64 r2, .int .i64 r3]) ∧ Kd.R k32 32 w' w.heap.size (fun _ => True) v0_ r1 ∧ Below w.heap.size w w' := by
  have HR0 := Aside0.mk hr0
  have HC0 := Aside0.mk hc0
  have H := Aside0.mk h
  have HB := Aside0.mk (Below.refl w.heap.size w)
  clear hr0 hc0 h
  by_cases c1 : (l0.length : Int) > 1024
  · have c1b : decide (1024 < (l0.length : Int)) = true := decide_eq_true c1
    have h := H.out
    unfold fix_Resolve.f at h
    rw [if_pos c1] at h
    simp only [Option.some.injEq, Prod.mk.injEq] at h
    obtain ⟨rfl, rfl, rfl⟩ := h
    clear c1 H
    go_enter Try.func9, Try.ntmps9
    go_wp2
    go_ret3
    exact ⟨_, rfl, Kd.R_nil _ _ _ _ _, HB.out⟩
  · have c1b : decide (1024 < (l0.length : Int)) = false := decide_eq_false c1
    have HN : Aside0 (l0.length ≤ 1024) := ⟨by omega⟩
    have HF : Aside0 ((match badFrom l0 0 with
      | some i => some (([] : List S32), i, (1 : Int))
      | none => outOf (takeFrom l0 l0 0 [] [⟨0, 0⟩] (List.replicate l0.length ⟨0, 0⟩))) = some (r1, r2, r3)) := by
      refine ⟨?_⟩
      have h := H.out
      unfold fix_Resolve.f at h
      rw [if_neg c1] at h
      exact h
    clear c1 H
    go_enter Try.func9, Try.ntmps9
    go_upto_block 0 with (fail)
    go_cut [14] (fun v14 wc => Aside0 (badFrom l0 0 = none) ∧ Aside0 (Below w.heap.size w wc))
    case first =>
      go_wp2
      go_loopg [14] l0.length (fun kq v14 w' => ∃ (i : Nat), v14 = .int .i64 (i : Int) ∧ Aside0 (i + kq = l0.length) ∧ Aside0 (badFrom (l0.drop i) (i : Int) = badFrom l0 0) ∧ Aside0 (Below w.heap.size w w'))
      case atStart => exact ⟨0, rfl, ⟨by omega⟩, ⟨by simp⟩, HB⟩
      case round =>
        clear HB
        obtain ⟨i, rfl, HI, HBAD, HB⟩ := hrel
        cases gk with
        | zero =>
          have hi : (i : Int) = (l0.length : Int) := by have := HI.out; omega
          have HBAD0 : Aside0 (badFrom l0 0 = none) := by
            refine ⟨?_⟩
            have h := HBAD.out
            rw [List.drop_eq_nil_of_le (by have := HI.out; omega)] at h
            exact h.symm
          rw [hi]
          clear hi HBAD
          go_wp2
          go_meet
          case rel => exact ⟨HBAD0, HB⟩
        | succ kq =>
          have hlt : i < l0.length := by have := HI.out; omega
          have hltb : decide ((i : Int) < (l0.length : Int)) = true := decide_eq_true (by omega)
          have p0 : (0 ≤ (i : Int)) = True := eq_true (by omega)
          have q0 : ((i : Int) < (l0.length : Int)) = True := eq_true (by omega)
          obtain ⟨ad, ea, hx0, hx1, hx2, hx3, hx4⟩ := at_T36 (Kd.C_below HR0.out HB.out) (i : Int) (by omega) (by omega)
          subst ea
          simp only [Int.toNat_natCast] at hx0 hx1 hx2 hx3 hx4
          have hw1 : wrap64 ((i : Int) + 1) = (i : Int) + 1 := by have := HN.out; unfold wrap64; omega
          have HD : Aside0 (badFrom (rd_T36 l0 (i : Int) :: l0.drop (i + 1)) (i : Int) = badFrom l0 0) := ⟨by rw [← drop_S36 l0 i hlt]; exact HBAD.out⟩
          clear HBAD
          generalize rd_T36 l0 (i : Int) = f at *
          have HLT := Aside0.mk hlt
          clear hlt
          go_upto_block 0 with (fail)
          try (with_reducible apply wp_label)
          have HB1 : Aside0 (Below w.heap.size w (wr.alloc (.cells #[.string f.f0, .int .i64 f.f1, .int .i64 f.f2, .int .i64 f.f3.f0, .int .i64 f.f3.f1] 36))) := ⟨below_alloc HB.out _⟩
          clear HB hx0 hx1 hx2 hx3 hx4
          generalize wr.alloc (.cells #[.string f.f0, .int .i64 f.f1, .int .i64 f.f2, .int .i64 f.f3.f0, .int .i64 f.f3.f1] 36) = w1 at HB1 ⊢
          by_cases cr : rightR f
          · have crb : decide (rightR f) = true := decide_eq_true cr
            have HD2 : Aside0 (badFrom (l0.drop (i + 1)) ((i + 1 : Nat) : Int) = badFrom l0 0) := by
              refine ⟨?_⟩
              have h := HD.out
              simp only [badFrom, if_pos cr] at h
              rw [← h]; push_cast; rfl
            clear cr HD
            go_wp2_with (go_at_call 19; go_must (refine (fixr.calls f.f0 f.f1 f.f2 f.f3.f0 f.f3.f1 _ w1 (right_f f)).mono ?_; rintro e w2 ⟨rfl, hb2⟩; have HB2 := Aside0.mk (below_then HB1.out HB1.out.size hb2); clear hb2 HB1))
            go_roundg kq
            case measure => omega
            case rel => exact ⟨i + 1, by push_cast; rw [hw1], ⟨by have := HI.out; omega⟩, HD2, HB2⟩
          · have crb : decide (rightR f) = false := decide_eq_false cr
            have HR2 : Aside0 (badFrom l0 0 = some (i : Int)) := by
              refine ⟨?_⟩
              have h := HD.out
              simp only [badFrom, if_neg cr] at h
              exact h.symm
            clear cr HD
            have hr := HF.out
            rw [HR2.out] at hr
            simp only [Option.some.injEq, Prod.mk.injEq] at hr
            obtain ⟨rfl, rfl, rfl⟩ := hr
            go_wp2_with (go_at_call 19; go_must (refine (fixr.calls f.f0 f.f1 f.f2 f.f3.f0 f.f3.f1 _ w1 (right_f f)).mono ?_; rintro e w2 ⟨rfl, hb2⟩; have HB2 := Aside0.mk (below_then HB1.out HB1.out.size hb2); clear hb2 HB1))
            go_ret3
            exact ⟨_, rfl, Kd.R_nil _ _ _ _ _, HB2.out⟩
    case rest =>
      clear HB
      obtain ⟨HNB, HB⟩ := hcut
      obtain ⟨T, hT⟩ : ∃ T, takeFrom l0 l0 0 [] [⟨0, 0⟩] (List.replicate l0.length ⟨0, 0⟩) = T := ⟨_, rfl⟩
      have HF2 : Aside0 (outOf T = some (r1, r2, r3)) := by
        refine ⟨?_⟩
        have h := HF.out
        rw [HNB.out] at h
        simp only [hT] at h
        exact h
      have HT := Aside0.mk hT
      clear HF HNB hT
      go_upto_block 2 with (first | ((with_reducible refine gate_dst (N := 26) rfl ?_); go_must (refine Kd.R_lit k32 (w0 := w) (W := wc) w.heap.size 32 rfl (N := 26) rfl (xs := [z32]) (inner := [.int .i64 0, .int .i64 0]) (okp := fun _ => True) (ok := fun _ => True) ?hr ⟨rfl, fun j p hj => by (cases j with | zero => (simp at hj; subst hj; exact k32_mkM _ _ _ z32) | succ j => simp at hj)⟩ (fun _ hk => hk) trivial HB.out HB.out.size (by decide) ?_; (case hr => first | (go_simp; done) | (go_simp; rfl)); intro vd w2 hd2 hb2 hg2 hn2; obtain ⟨bd, cd, rfl, -, -, -⟩ := Kd.R_form hd2 (by simp); have HD2 := Aside0.mk hd2; have HB2 := Aside0.mk hb2; clear hd2 hb2 hg2 hn2 HB)) | ((with_reducible refine gate_dst (N := 29) rfl ?_); go_must (refine Kd.R_make k32 (w0 := w) (W := w2) w.heap.size 32 rfl (N := 29) rfl 23 _ _ rfl (l0.length : Int) rfl rfl Try.underlying23 (.agg #[(.int .i64 0), (.int .i64 0)]) 16 info32 rfl (by decide) (by omega) z32 (ok := fun k => some k ≠ (some bd : Option Nat)) (okp := fun _ => False) (k32_mkM _ _ _ z32) (fun _ hk => hk.elim) (fun e => by have := Kd.R_lt HD2.out bd rfl; injection e with e; omega) (by omega) (by have := HN.out; omega) HB2.out HB2.out.size ?_; intro vo w3 ho3 hb3 hg3 hn3; rw [Int.toNat_natCast] at ho3; obtain ⟨Ao, co, eo⟩ := Kd.R_slice ho3; rw [List.length_replicate] at eo; subst eo; have HD3 := Aside0.mk (Kd.R_after (ok := fun _ => True) (v := .slice none 0 0) (v1 := .slice Ao l0.length co) (Kd.R_mono HD2.out (fun k _ => ⟨trivial, by simp [Value.ownBlock]⟩)) hg3 (Or.inr hn3)); have HO3 := Aside0.mk ho3; have HB3 := Aside0.mk hb3; clear ho3 hb3 hg3 hn3 HD2 HB2)))
      have HSt : Aside0 (St w w (w3.alloc (.cells #[.slice A0 l0.length c0, .slice none 0 0, .slice (some ⟨bd, 0, none⟩) 1 cd, .slice Ao l0.length co] 46)) w3.heap.size (.slice A0 l0.length c0) (.slice none 0 0) (.slice (some ⟨bd, 0, none⟩) 1 cd) (.slice Ao l0.length co) ([] : List Int).reverse [z32].reverse (List.replicate l0.length z32)) :=
        ⟨⟨blk_new w3 _, HB3.out.size, Kd.R_nil _ _ _ _ _, Kd.R_alloc (Kd.R_mono HD3.out (fun k hk => hk.2)) _, Kd.R_alloc HO3.out _, below_alloc HB3.out _, fun b cs hc => blk_below hc (below_alloc HB3.out _)⟩⟩
      clear HD3 HO3 HB3
      generalize w3.heap.size = g at HSt ⊢
      generalize w3.alloc (.cells #[.slice A0 l0.length c0, .slice none 0 0, .slice (some ⟨bd, 0, none⟩) 1 cd, .slice Ao l0.length co] 46) = w4 at HSt ⊢
      have HInv : Aside0 (Inv l0.length [] [z32] (List.replicate l0.length z32)) := ⟨⟨by simp, rfl, by simp, HN.out, by simp⟩⟩
      go_cut [34] (fun v34 wc => ∃ (vw vd : Value) (rs : List Int) (rd os : List S32), Aside0 (St w w wc g (.slice A0 l0.length c0) vw vd (.slice Ao l0.length co) rs.reverse rd.reverse os) ∧ Aside0 (Inv l0.length rs rd os) ∧ Aside0 (.inr (rs, rd, os) = T))
      case first =>
        go_wp2
        go_loopg [34] l0.length (fun kq v34 w' => ∃ (i : Nat) (vw vd : Value) (rs : List Int) (rd os : List S32), v34 = .int .i64 (i : Int) ∧ Aside0 (i + kq = l0.length) ∧ Aside0 (St w w w' g (.slice A0 l0.length c0) vw vd (.slice Ao l0.length co) rs.reverse rd.reverse os) ∧ Aside0 (Inv l0.length rs rd os) ∧ Aside0 (rs.length ≤ i) ∧ Aside0 (takeFrom l0 (l0.drop i) (i : Int) rs rd os = T))
        case atStart => exact ⟨0, _, _, [], [z32], _, rfl, ⟨by omega⟩, HSt, HInv, ⟨by simp⟩, HT⟩
        case round =>
          clear HSt HInv HT
          obtain ⟨i, vw, vd, rs, rd, os, rfl, HI, HS, HV, HL, HT⟩ := hrel
          cases gk with
          | zero =>
            have hi : (i : Int) = (l0.length : Int) := by have := HI.out; omega
            have HT0 : Aside0 (.inr (rs, rd, os) = T) := by
              refine ⟨?_⟩
              have h := HT.out
              rw [List.drop_eq_nil_of_le (by have := HI.out; omega)] at h
              exact h
            rw [hi]
            clear hi HT
            go_wp2
            go_meet
            case rel => exact ⟨vw, vd, rs, rd, os, HS, HV, HT0⟩
          | succ kq =>
            have hlt : i < l0.length := by have := HI.out; omega
            have hltc : (i < l0.length) = True := eq_true hlt
            have hw1 : wrap64 ((i : Int) + 1) = (i : Int) + 1 := by have := HN.out; unfold wrap64; omega
            obtain ⟨b, rs2, rd2, os2, hR⟩ : ∃ b rs2 rd2 os2, takesR (rd_T36 l0 (i : Int)) l0 (i : Int) rs rd os = (b, rs2, rd2, os2) := ⟨_, _, _, _, rfl⟩
            have HR := Aside0.mk hR
            have HLT := Aside0.mk hlt
            clear hR hlt
            cases b with
            | true =>
              have HT2 : Aside0 (takeFrom l0 (l0.drop (i + 1)) ((i + 1 : Nat) : Int) rs2 rd2 os2 = T) := by
                refine ⟨?_⟩
                have h := HT.out
                rw [drop_S36 l0 i HLT.out] at h
                simp only [takeFrom, HR.out, if_true] at h
                rw [← h]; push_cast; rfl
              have HV2 : Aside0 (Inv l0.length rs2 rd2 os2 ∧ rs2.length ≤ rs.length + 1) := by
                refine ⟨?_⟩
                have := takesR_inv (f := rd_T36 l0 (i : Int)) (l := l0) (k := (i : Int)) (by omega) (by have := HLT.out; omega) rs rd os HV.out (by have := HL.out; have := HLT.out; have := HN.out; omega) (by rw [HR.out])
                rw [HR.out] at this
                exact this
              go_upto_block 0 with (go_at_call 20; go_must (refine (takes_calls g A0 c0 l0 vw vd (.slice Ao l0.length co) (i : Int) rs rd os w wr HS.out.rebase HR0.out (by omega) (by have := HLT.out; omega) HV.out (by have := HL.out; have := HLT.out; have := HN.out; omega) (true, rs2, rd2, os2) HR.out).mono ?_; rintro e w5 ⟨rfl, vw5, vd5, hs5⟩; have HS5 := Aside0.mk (St.chain HS.out.kp hs5); clear hs5 HS))
              go_roundg kq
              case measure => omega
              case rel => exact ⟨i + 1, vw5, vd5, rs2, rd2, os2, by push_cast; rw [hw1], ⟨by have := HI.out; omega⟩, HS5, ⟨HV2.out.1⟩, ⟨by have := HV2.out.2; have := HL.out; omega⟩, HT2⟩
            | false =>
              have HT2 : Aside0 (T = .inl (i : Int)) := by
                refine ⟨?_⟩
                have h := HT.out
                rw [drop_S36 l0 i HLT.out] at h
                simp only [takeFrom, HR.out] at h
                exact h.symm
              have hr := HF2.out
              rw [HT2.out] at hr
              simp only [outOf, Option.some.injEq, Prod.mk.injEq] at hr
              obtain ⟨rfl, rfl, rfl⟩ := hr
              go_upto_block 0 with (go_at_call 20; go_must (refine (takes_calls g A0 c0 l0 vw vd (.slice Ao l0.length co) (i : Int) rs rd os w wr HS.out.rebase HR0.out (by omega) (by have := HLT.out; omega) HV.out (by have := HL.out; have := HLT.out; have := HN.out; omega) (false, rs2, rd2, os2) HR.out).mono ?_; rintro e w5 ⟨rfl, vw5, vd5, hs5⟩; have HS5 := Aside0.mk (St.chain HS.out.kp hs5); clear hs5 HS))
              go_ret3
              exact ⟨_, rfl, Kd.R_nil _ _ _ _ _, HS5.out.bl⟩
      case rest =>
        clear HSt HInv HT
        obtain ⟨vw, vd, rs, rd, os, HS, HV, HT⟩ := hcut
        have hr := HF2.out
        rw [← HT.out] at hr
        simp only [outOf, Option.some.injEq, Prod.mk.injEq] at hr
        obtain ⟨hr1, rfl, rfl⟩ := hr
        have HR1 := Aside0.mk hr1
        clear hr1 HT HF2
        go_upto_block 4 with (fail)
        go_cut [48] (fun v48 wc => ∃ (vw vd : Value), ∃ ds, Aside0 (St w w wc g (.slice A0 l0.length c0) vw vd (.slice Ao l0.length co) [] ds r1))
        case first =>
          go_wp2
          go_loopg [48] rs.length (fun kq v48 w' => ∃ (vw vd : Value) (rs : List Int) (rd os : List S32), Aside0 (St w w w' g (.slice A0 l0.length c0) vw vd (.slice Ao l0.length co) rs.reverse rd.reverse os) ∧ Aside0 (Inv l0.length rs rd os) ∧ Aside0 (redAll rs rd os = r1) ∧ Aside0 (rs.length = kq))
          case atStart => exact ⟨vw, vd, rs, rd, os, HS, HV, HR1, ⟨rfl⟩⟩
          case round =>
            clear HS HV HR1
            obtain ⟨vw, vd, rs, rd, os, HS, HV, HR1, HK⟩ := hrel
            cases rs with
            | nil =>
              obtain ⟨A, cw, rfl⟩ := Kd.R_slice HS.out.hw
              have hg1 : wr.cell? ⟨g, 1, none⟩ = some (.slice A 0 cw) := (blk_cell HS.out.gb 1).trans rfl
              have HO1 : Aside0 (os = r1) := ⟨by have := HR1.out; simpa [redAll] using this⟩
              obtain rfl := HO1.out
              go_wp2
              go_meet
              case rel => exact ⟨_, vd, _, HS⟩
            | cons t rs' =>
              obtain ⟨bw, cw, rfl, -, -, -⟩ := Kd.R_form HS.out.hw (by simp)
              have hrl : (t :: rs').reverse.length = rs'.length + 1 := by simp
              rw [hrl] at HS
              clear hrl
              have hg1 : wr.cell? ⟨g, 1, none⟩ = some (.slice (some ⟨bw, 0, none⟩) (rs'.length + 1) cw) := (blk_cell HS.out.gb 1).trans rfl
              have hdl := HV.out.dl
              obtain ⟨y, x, rd2, rfl⟩ : ∃ y x rd2, rd = y :: x :: rd2 := by
                match rd, hdl with
                | y :: x :: rd2, _ => exact ⟨y, x, rd2, rfl⟩
              clear hdl
              have HT0 := Aside0.mk (HV.out.wr t (by simp)).1
              have HT1 := Aside0.mk (HV.out.wr t (by simp)).2
              cases gk with
              | zero => have := HK.out; simp at this
              | succ kq =>
                go_upto_block 0 with (go_at_call 21; go_must (refine (reduce_calls g (.slice A0 l0.length c0) (.slice (some ⟨bw, 0, none⟩) (rs'.length + 1) cw) vd (.slice Ao l0.length co) rs'.reverse t rd2.reverse x y os wr w wr ?hS ?h0 ?h1 ?h2 ?h3 ?h4).mono ?_; (case hS => exact (by have := HS.out.rebase; simpa [List.append_assoc] using this)); (case h0 => exact HT0.out); (case h1 => have := HT1.out; have := HV.out.ol; omega); (case h2 => have := HV.out.rl; simp at this ⊢; omega); (case h3 => have := HV.out.dl; have := HV.out.rl; simp at *; omega); (case h4 => have := HV.out.ol; have := HN.out; omega); rintro e w6 ⟨rfl, vw6, vd6, hs6⟩; have HS6 := Aside0.mk (St.chain HS.out.kp hs6); clear hs6 HS))
                go_roundg kq
                case measure => omega
                case rel => exact ⟨vw6, vd6, rs', ⟨x.f0, y.f1⟩ :: rd2, os.set t.toNat ⟨x.f0, y.f1⟩, ⟨by simpa using HS6.out⟩, ⟨HV.out.tail _ _ _⟩, ⟨by have := HR1.out; simpa [redAll] using this⟩, ⟨by have := HK.out; simp at this; omega⟩⟩
        case rest =>
          clear HS HV HR1
          obtain ⟨vw, vd, ds, HS⟩ := hcut
          have hg3 : wc.cell? ⟨g, 3, none⟩ = some (.slice Ao l0.length co) := (blk_cell HS.out.gb 3).trans rfl
          go_wp2
          go_ret3
          exact ⟨_, rfl, Kd.R_mono HS.out.ho (fun _ _ => trivial), HS.out.bl⟩
end Go.Proofs.Ytmiepbnjocojhaa.QN
