-- Lines written by a program of this session (wip/tools/myprint.py); Lean checks them.
import Derived.Test.YtmiepbnjocojhaaQN0
import Derived.Test.YtmiepbnjocojhaaQN3
import Derived.Test.YtmiepbnjocojhaaQN5
import Derived.Test.YtmiepbnjocojhaaRsv
import Derived.Test.YtmiepbnjocojhaaDef
namespace Go.Proofs.Ytmiepbnjocojhaa.QN
open Go.RowKit Go.Proofs.YtmiepbnjocojhaaW.PrintWords Go.Proofs.YtmiepbnjocojhaaW.PrintLast Go.Proofs.YtmiepbnjocojhaaW.PrintMore
attribute [local go_sem] max2_int min2_int max_two min_two max_three min_three max_four min_four   -- for this text's walks alone
set_option linter.unusedVariables false
set_option linter.unusedSimpArgs false

/-! ### changelinglaw05_FixSides: function 6 -/
mutual
def changelinglaw05_FixSides.j0 : Nat → Int → Int → Bool → Bool → Option (Bool)
  | 0, _, _, _, _ => none
  | k + 1, x0, x1, x2, x19 => if x19 = true then ((changelinglaw05_known.f k).bind fun t267 => (some t267)) else (if x2 = true then (changelinglaw05_FixSides.j1 k x0 x2 (⟨#[]⟩ : ByteArray) 1 x1 0 0) else (changelinglaw05_FixSides.j1 k x0 x2 (⟨#[]⟩ : ByteArray) 2 x1 0 0))
def changelinglaw05_FixSides.j1 : Nat → Int → Bool → ByteArray → Int → Int → Int → Int → Option (Bool)
  | 0, _, _, _, _, _, _, _ => none
  | k + 1, x0, x2, x269000, x269001, x269002, x269003, x269004 => changelinglaw05_FixSides.l0 k x0 x2 ([] : List (S36)) 0 x269000 x269001 x269002 x269003 x269004
def changelinglaw05_FixSides.l0 : Nat → Int → Bool → List (S36) → Int → ByteArray → Int → Int → Int → Int → Option (Bool)
  | 0, _, _, _, _, _, _, _, _, _ => none
  | k + 1, x0, x2, x8, x9, x269000, x269001, x269002, x269003, x269004 => if x9 < x0 then (if x8.length < 2932031007402 then (changelinglaw05_FixSides.l0 k x0 x2 (x8 ++ [(⟨x269000, x269001, x269002, (⟨x269003, x269004⟩ : S34)⟩ : S36)]) (wrap64 (x9 + 1)) x269000 x269001 x269002 x269003 x269004) else (none)) else ((fix_Resolve.f x8).bind fun bt272 => (if x0 > 0 then ((changelingref05_Right.f x269000 x269001 x269002 x269003 x269004).bind fun t277 => (changelinglaw05_FixSides.j3 k x0 x2 bt272.1 bt272.2.1 bt272.2.2 (!t277))) else (changelinglaw05_FixSides.j3 k x0 x2 bt272.1 bt272.2.1 bt272.2.2 false)))
def changelinglaw05_FixSides.j3 : Nat → Int → Bool → List (S32) → Int → Int → Bool → Option (Bool)
  | 0, _, _, _, _, _, _ => none
  | k + 1, x0, x2, x10, x11, x12, x46 => if x46 = true then (if x12 = 1 then (if x11 = 0 then (if (x10.length : Int) = 0 then ((changelinglaw05_known.f k).bind fun t278 => (some t278)) else (some false)) else (some false)) else (some false)) else (if x12 = 0 then (changelinglaw05_FixSides.j4 k x0 x2 x10 ((x10.length : Int) != x0)) else (changelinglaw05_FixSides.j4 k x0 x2 x10 true))
def changelinglaw05_FixSides.j4 : Nat → Int → Bool → List (S32) → Bool → Option (Bool)
  | 0, _, _, _, _ => none
  | k + 1, x0, x2, x10, x68 => if x68 = true then (some false) else (changelinglaw05_FixSides.l1 k x0 x2 x10 0)
def changelinglaw05_FixSides.l1 : Nat → Int → Bool → List (S32) → Int → Option (Bool)
  | 0, _, _, _, _ => none
  | k + 1, x0, x2, x10, x13 => if x13 < x0 then (if x2 = true then (if 0 ≤ x13 then (if x13 < (x10.length : Int) then (if ((rd_T32 x10 x13).f0) = 0 then (if ((rd_T32 x10 x13).f1) = (wrap64 (x13 + 1)) then (changelinglaw05_FixSides.l1 k x0 x2 x10 (wrap64 (x13 + 1))) else (some false)) else (some false)) else (none)) else (none)) else (if 0 ≤ x13 then (if x13 < (x10.length : Int) then (if ((rd_T32 x10 x13).f0) = x13 then (if ((rd_T32 x10 x13).f1) = x0 then (changelinglaw05_FixSides.l1 k x0 x2 x10 (wrap64 (x13 + 1))) else (some false)) else (some false)) else (none)) else (none))) else ((changelinglaw05_known.f k).bind fun t283 => (some t283))
end
def changelinglaw05_FixSides.f (k : Nat) (a0 : Int) (a1 : Int) (a2 : Bool) : Option (Bool) := if a0 < 0 then (changelinglaw05_FixSides.j0 k a0 a1 a2 true) else (changelinglaw05_FixSides.j0 k a0 a1 a2 (decide (a0 > 400)))
theorem changelinglaw05_FixSides.mono_l : ∀ k, (∀ y0 y1 y2 y3, LeO (changelinglaw05_FixSides.j0 k y0 y1 y2 y3) (changelinglaw05_FixSides.j0 (k + 1) y0 y1 y2 y3)) ∧ (∀ y0 y1 y2 y3 y4 y5 y6, LeO (changelinglaw05_FixSides.j1 k y0 y1 y2 y3 y4 y5 y6) (changelinglaw05_FixSides.j1 (k + 1) y0 y1 y2 y3 y4 y5 y6)) ∧ (∀ y0 y1 y2 y3 y4 y5 y6 y7 y8, LeO (changelinglaw05_FixSides.l0 k y0 y1 y2 y3 y4 y5 y6 y7 y8) (changelinglaw05_FixSides.l0 (k + 1) y0 y1 y2 y3 y4 y5 y6 y7 y8)) ∧ (∀ y0 y1 y2 y3 y4 y5, LeO (changelinglaw05_FixSides.j3 k y0 y1 y2 y3 y4 y5) (changelinglaw05_FixSides.j3 (k + 1) y0 y1 y2 y3 y4 y5)) ∧ (∀ y0 y1 y2 y3, LeO (changelinglaw05_FixSides.j4 k y0 y1 y2 y3) (changelinglaw05_FixSides.j4 (k + 1) y0 y1 y2 y3)) ∧ (∀ y0 y1 y2 y3, LeO (changelinglaw05_FixSides.l1 k y0 y1 y2 y3) (changelinglaw05_FixSides.l1 (k + 1) y0 y1 y2 y3))
  | 0 => ⟨fun _ _ _ _ r h => by simp [changelinglaw05_FixSides.j0] at h, fun _ _ _ _ _ _ _ r h => by simp [changelinglaw05_FixSides.j1] at h, fun _ _ _ _ _ _ _ _ _ r h => by simp [changelinglaw05_FixSides.l0] at h, fun _ _ _ _ _ _ r h => by simp [changelinglaw05_FixSides.j3] at h, fun _ _ _ _ r h => by simp [changelinglaw05_FixSides.j4] at h, fun _ _ _ _ r h => by simp [changelinglaw05_FixSides.l1] at h⟩
  | k + 1 => by
    obtain ⟨ih0, ih1, ih2, ih3, ih4, ih5⟩ := changelinglaw05_FixSides.mono_l k
    refine ⟨?_, ?_, ?_, ?_, ?_, ?_⟩
    · intro y0 y1 y2 y3
      unfold changelinglaw05_FixSides.j0
      repeat' first
      | (with_reducible exact ih0 _ _ _ _)
      | (with_reducible exact ih1 _ _ _ _ _ _ _)
      | (with_reducible exact ih2 _ _ _ _ _ _ _ _ _)
      | (with_reducible exact ih3 _ _ _ _ _ _)
      | (with_reducible exact ih4 _ _ _ _)
      | (with_reducible exact ih5 _ _ _ _)
      | (with_reducible exact changelinglaw05_known.mono _)
      | (with_reducible exact LeO.refl _)
      | (with_reducible exact LeO.none _)
      | (with_reducible refine LeO.ite ?_ ?_)
      | (with_reducible refine LeO.bind ?_ (fun _ => ?_))
      | exact ih0 _ _ _ _
      | exact ih1 _ _ _ _ _ _ _
      | exact ih2 _ _ _ _ _ _ _ _ _
      | exact ih3 _ _ _ _ _ _
      | exact ih4 _ _ _ _
      | exact ih5 _ _ _ _
      | exact changelinglaw05_known.mono _
      | exact LeO.none _
      | refine LeO.ite ?_ ?_
      | refine LeO.bind ?_ (fun _ => ?_)
    · intro y0 y1 y2 y3 y4 y5 y6
      unfold changelinglaw05_FixSides.j1
      repeat' first
      | (with_reducible exact ih0 _ _ _ _)
      | (with_reducible exact ih1 _ _ _ _ _ _ _)
      | (with_reducible exact ih2 _ _ _ _ _ _ _ _ _)
      | (with_reducible exact ih3 _ _ _ _ _ _)
      | (with_reducible exact ih4 _ _ _ _)
      | (with_reducible exact ih5 _ _ _ _)
      | (with_reducible exact changelinglaw05_known.mono _)
      | (with_reducible exact LeO.refl _)
      | (with_reducible exact LeO.none _)
      | (with_reducible refine LeO.ite ?_ ?_)
      | (with_reducible refine LeO.bind ?_ (fun _ => ?_))
      | exact ih0 _ _ _ _
      | exact ih1 _ _ _ _ _ _ _
      | exact ih2 _ _ _ _ _ _ _ _ _
      | exact ih3 _ _ _ _ _ _
      | exact ih4 _ _ _ _
      | exact ih5 _ _ _ _
      | exact changelinglaw05_known.mono _
      | exact LeO.none _
      | refine LeO.ite ?_ ?_
      | refine LeO.bind ?_ (fun _ => ?_)
    · intro y0 y1 y2 y3 y4 y5 y6 y7 y8
      unfold changelinglaw05_FixSides.l0
      repeat' first
      | (with_reducible exact ih0 _ _ _ _)
      | (with_reducible exact ih1 _ _ _ _ _ _ _)
      | (with_reducible exact ih2 _ _ _ _ _ _ _ _ _)
      | (with_reducible exact ih3 _ _ _ _ _ _)
      | (with_reducible exact ih4 _ _ _ _)
      | (with_reducible exact ih5 _ _ _ _)
      | (with_reducible exact changelinglaw05_known.mono _)
      | (with_reducible exact LeO.refl _)
      | (with_reducible exact LeO.none _)
      | (with_reducible refine LeO.ite ?_ ?_)
      | (with_reducible refine LeO.bind ?_ (fun _ => ?_))
      | exact ih0 _ _ _ _
      | exact ih1 _ _ _ _ _ _ _
      | exact ih2 _ _ _ _ _ _ _ _ _
      | exact ih3 _ _ _ _ _ _
      | exact ih4 _ _ _ _
      | exact ih5 _ _ _ _
      | exact changelinglaw05_known.mono _
      | exact LeO.none _
      | refine LeO.ite ?_ ?_
      | refine LeO.bind ?_ (fun _ => ?_)
    · intro y0 y1 y2 y3 y4 y5
      unfold changelinglaw05_FixSides.j3
      repeat' first
      | (with_reducible exact ih0 _ _ _ _)
      | (with_reducible exact ih1 _ _ _ _ _ _ _)
      | (with_reducible exact ih2 _ _ _ _ _ _ _ _ _)
      | (with_reducible exact ih3 _ _ _ _ _ _)
      | (with_reducible exact ih4 _ _ _ _)
      | (with_reducible exact ih5 _ _ _ _)
      | (with_reducible exact changelinglaw05_known.mono _)
      | (with_reducible exact LeO.refl _)
      | (with_reducible exact LeO.none _)
      | (with_reducible refine LeO.ite ?_ ?_)
      | (with_reducible refine LeO.bind ?_ (fun _ => ?_))
      | exact ih0 _ _ _ _
      | exact ih1 _ _ _ _ _ _ _
      | exact ih2 _ _ _ _ _ _ _ _ _
      | exact ih3 _ _ _ _ _ _
      | exact ih4 _ _ _ _
      | exact ih5 _ _ _ _
      | exact changelinglaw05_known.mono _
      | exact LeO.none _
      | refine LeO.ite ?_ ?_
      | refine LeO.bind ?_ (fun _ => ?_)
    · intro y0 y1 y2 y3
      unfold changelinglaw05_FixSides.j4
      repeat' first
      | (with_reducible exact ih0 _ _ _ _)
      | (with_reducible exact ih1 _ _ _ _ _ _ _)
      | (with_reducible exact ih2 _ _ _ _ _ _ _ _ _)
      | (with_reducible exact ih3 _ _ _ _ _ _)
      | (with_reducible exact ih4 _ _ _ _)
      | (with_reducible exact ih5 _ _ _ _)
      | (with_reducible exact changelinglaw05_known.mono _)
      | (with_reducible exact LeO.refl _)
      | (with_reducible exact LeO.none _)
      | (with_reducible refine LeO.ite ?_ ?_)
      | (with_reducible refine LeO.bind ?_ (fun _ => ?_))
      | exact ih0 _ _ _ _
      | exact ih1 _ _ _ _ _ _ _
      | exact ih2 _ _ _ _ _ _ _ _ _
      | exact ih3 _ _ _ _ _ _
      | exact ih4 _ _ _ _
      | exact ih5 _ _ _ _
      | exact changelinglaw05_known.mono _
      | exact LeO.none _
      | refine LeO.ite ?_ ?_
      | refine LeO.bind ?_ (fun _ => ?_)
    · intro y0 y1 y2 y3
      unfold changelinglaw05_FixSides.l1
      repeat' first
      | (with_reducible exact ih0 _ _ _ _)
      | (with_reducible exact ih1 _ _ _ _ _ _ _)
      | (with_reducible exact ih2 _ _ _ _ _ _ _ _ _)
      | (with_reducible exact ih3 _ _ _ _ _ _)
      | (with_reducible exact ih4 _ _ _ _)
      | (with_reducible exact ih5 _ _ _ _)
      | (with_reducible exact changelinglaw05_known.mono _)
      | (with_reducible exact LeO.refl _)
      | (with_reducible exact LeO.none _)
      | (with_reducible refine LeO.ite ?_ ?_)
      | (with_reducible refine LeO.bind ?_ (fun _ => ?_))
      | exact ih0 _ _ _ _
      | exact ih1 _ _ _ _ _ _ _
      | exact ih2 _ _ _ _ _ _ _ _ _
      | exact ih3 _ _ _ _ _ _
      | exact ih4 _ _ _ _
      | exact ih5 _ _ _ _
      | exact changelinglaw05_known.mono _
      | exact LeO.none _
      | refine LeO.ite ?_ ?_
      | refine LeO.bind ?_ (fun _ => ?_)
theorem changelinglaw05_FixSides.mono : ∀ a0 a1 a2 k, LeO (changelinglaw05_FixSides.f k a0 a1 a2) (changelinglaw05_FixSides.f (k + 1) a0 a1 a2) := by
  intro a0 a1 a2 k
  obtain ⟨ih0, ih1, ih2, ih3, ih4, ih5⟩ := changelinglaw05_FixSides.mono_l k
  unfold changelinglaw05_FixSides.f
  repeat' first
      | (with_reducible exact ih0 _ _ _ _)
      | (with_reducible exact ih1 _ _ _ _ _ _ _)
      | (with_reducible exact ih2 _ _ _ _ _ _ _ _ _)
      | (with_reducible exact ih3 _ _ _ _ _ _)
      | (with_reducible exact ih4 _ _ _ _)
      | (with_reducible exact ih5 _ _ _ _)
      | (with_reducible exact changelinglaw05_known.mono _)
      | (with_reducible exact LeO.refl _)
      | (with_reducible exact LeO.none _)
      | (with_reducible refine LeO.ite ?_ ?_)
      | (with_reducible refine LeO.bind ?_ (fun _ => ?_))
      | exact ih0 _ _ _ _
      | exact ih1 _ _ _ _ _ _ _
      | exact ih2 _ _ _ _ _ _ _ _ _
      | exact ih3 _ _ _ _ _ _
      | exact ih4 _ _ _ _
      | exact ih5 _ _ _ _
      | exact changelinglaw05_known.mono _
      | exact LeO.none _
      | refine LeO.ite ?_ ?_
      | refine LeO.bind ?_ (fun _ => ?_)
set_option maxHeartbeats 8000000 in
set_option maxRecDepth 100000 in
theorem changelinglaw05_FixSides.calls (k : Nat) (a0 : Int) (a1 : Int) (a2 : Bool) (r : Bool) (w : World) (h : changelinglaw05_FixSides.f k a0 a1 a2 = some r) :
    Calls Try.prog 6 #[.int .i64 a0, .int .i64 a1, .bool a2] w fun e w' => e = .returned (.bool r) ∧ Below w.heap.size w w' := by
  have hu36 := Try.underlying36
  have HB := Aside0.mk (Below.refl w.heap.size w)
  have H : (if a0 < 0 then (changelinglaw05_FixSides.j0 k a0 a1 a2 true) else (changelinglaw05_FixSides.j0 k a0 a1 a2 (decide (a0 > 400)))) = some r := h
  clear h
  have HC4 := Aside0.mk H
  clear H
  go_enter Try.func6, Try.ntmps6
  go_upto_region 1 with (fail)
  go_cut [19] (fun v19 wc => ∃ (kq : Nat) (x19_3 : Bool), v19 = .bool x19_3 ∧ Aside0 (changelinglaw05_FixSides.j0 kq a0 a1 a2 x19_3 = some r) ∧ Aside0 (kq ≤ k) ∧ Aside0 (Below w.heap.size w wc))
  case first =>
    have H := HC4.out
    clear HC4
    by_cases c5 : a0 < 0
    · rw [if_pos c5] at H
      have c5b0 : decide (a0 < 0) = true := decide_eq_true c5
      clear c5
      (first | rw [c5b0] | (simp only [i64_w, i32_w]; rw [c5b0]) | skip)
      have H' := Aside0.mk H
      clear H
      go_wp2
      go_meet
      case rel => exact ⟨_, (true), (by first | rfl | (simp; done) | (simp [*]; done)), H', ⟨by first | omega | exact Nat.le_refl _⟩, ⟨by repeat (first | (with_reducible first | exact HB.out | apply below_alloc | apply pw_below_drewN | apply below_drew1) | exact HB.out)⟩⟩
    · rw [if_neg c5] at H
      have c5b0 : decide (a0 < 0) = false := decide_eq_false c5
      clear c5
      (first | rw [c5b0] | (simp only [i64_w, i32_w]; rw [c5b0]) | skip)
      have H' := Aside0.mk H
      clear H
      go_wp2
      go_meet
      case rel => exact ⟨_, (decide (a0 > 400)), (by first | rfl | (simp; done) | (simp [*]; done)), H', ⟨by first | omega | exact Nat.le_refl _⟩, ⟨by repeat (first | (with_reducible first | exact HB.out | apply below_alloc | apply pw_below_drewN | apply below_drew1) | exact HB.out)⟩⟩
  case rest =>
    clear HC4
    try clear p2
    try clear c5
    try clear c5b0
    obtain ⟨kq, x19_3, rfl, HA, HJ3, HB⟩ := hcut
    cases kq with
    | zero => exact absurd HA.out (by simp [changelinglaw05_FixSides.j0])
    | succ kj3 =>
      have H := HA.out
      clear HA
      simp only [changelinglaw05_FixSides.j0] at H
      by_cases c6 : x19_3 = true
      · subst c6
        have H1 : ((changelinglaw05_known.f kj3).bind fun t267 => (some t267)) = some r := by rw [if_pos rfl] at H; exact H
        clear H
        have H := H1
        clear H1
        replace H := Option.bind_eq_some_iff.mp H
        obtain ⟨t267, A70, H⟩ := H
        replace H : (some t267) = some r := H
        have A7 := Aside0.mk A70
        clear A70
        obtain rfl := Option.some.inj H
        go_wp2_with (first | ((with_reducible refine gate_callee (f := 12) rfl ?_); refine goesL_ (some 20) rfl rfl Try.func12 (by kernel_rfl) rfl #[] rfl (by (try simp only [List.map_toArray, List.map_cons, List.map_nil]); first | done | rfl | (simp only [List.length_drop, List.length_take]; rfl)) ?_; (with_reducible refine (changelinglaw05_known.calls kj3  t267 _ A7.out).mono ?_); rintro e w8 ⟨rfl, hb⟩; refine ⟨_, rfl, ?_⟩; have n0_ := Aside0.mk (below_step (by repeat (first | (with_reducible first | exact HB.out | apply below_alloc | apply pw_below_drewN | apply below_drew1) | exact HB.out)) hb); clear HB; have HB := n0_; clear n0_; (try clear hb); (try clear hb2); (try clear hk); (try clear hi)))
        go_ret
        exact ⟨by first | rfl | (simp [errW_none, errW_some] <;> rfl) | (simp [*, errW_none, errW_some] <;> rfl), by repeat (first | (with_reducible first | exact HB.out | apply below_alloc | apply pw_below_drewN | apply below_drew1) | exact HB.out)⟩
      · replace c6 := Bool.eq_false_iff.mpr c6
        subst c6
        have H1 : (if a2 = true then (changelinglaw05_FixSides.j1 kj3 a0 a2 (⟨#[]⟩ : ByteArray) 1 a1 0 0) else (changelinglaw05_FixSides.j1 kj3 a0 a2 (⟨#[]⟩ : ByteArray) 2 a1 0 0)) = some r := by rw [if_neg (show ¬ (false = true) by decide)] at H; exact H
        clear H
        have H := H1
        clear H1
        have HC9 := Aside0.mk H
        clear H
        go_upto_if 23 with (first | ((with_reducible refine gate_dst (N := 7) rfl ?_); (try (refine gate_guard (by rfl) ?_; dsimp only)); refine box_event ?hg (N := 7) ?hd (cs := #[.string (⟨#[]⟩ : ByteArray), .int .i64 0, .int .i64 0, .int .i64 0, .int .i64 0]) (t := 36) ?hr ?_; (case hd => rfl); (case hg => rfl); (case hr => first | (go_simp; done) | (go_simp; rfl)); intro gb268 hg w10 hbox hb; have n0_ := Aside0.mk (below_step (by repeat (first | (with_reducible first | exact HB.out | apply below_alloc | apply pw_below_drewN | apply below_drew1) | exact HB.out)) hb); have n1_ := Aside0.mk (hbox); have n2_ := Aside0.mk ((by rw [hg]; exact (below_size (by repeat (first | (with_reducible first | exact HB.out | apply below_alloc | apply pw_below_drewN | apply below_drew1) | exact HB.out))) : w.heap.size ≤ gb268)); have n3_ := Aside0.mk ((by rw [hg]; exact (below_size (by repeat (first | (with_reducible first | exact HB.out | apply below_alloc | apply pw_below_drewN | apply below_drew1) | exact HB.out))) : w.heap.size ≤ gb268)); clear HB; have HB := n0_; have BK268 := n1_; have GW268 := n2_; have GE268 := n3_; clear n0_ n1_ n2_ n3_; clear hb hbox hg; have hcz11_0 : w10.cell? ⟨gb268, 0, none⟩ = some (.string (⟨#[]⟩ : ByteArray)) := (blk_cell BK268.out 0).trans rfl; have hcz11_1 : w10.cell? ⟨gb268, 1, none⟩ = some (.int .i64 0) := (blk_cell BK268.out 1).trans rfl; have hcz11_2 : w10.cell? ⟨gb268, 2, none⟩ = some (.int .i64 0) := (blk_cell BK268.out 2).trans rfl; have hcz11_3 : w10.cell? ⟨gb268, 3, none⟩ = some (.int .i64 0) := (blk_cell BK268.out 3).trans rfl; have hcz11_4 : w10.cell? ⟨gb268, 4, none⟩ = some (.int .i64 0) := (blk_cell BK268.out 4).trans rfl; have hfz11_0 := blk_frozen BK268.out 0; have hfz11_1 := blk_frozen BK268.out 1; have hfz11_2 := blk_frozen BK268.out 2; have hfz11_3 := blk_frozen BK268.out 3; have hfz11_4 := blk_frozen BK268.out 4))
        (try simp only [Act.put, List.setIfInBounds_toArray, List.set_cons_zero, List.set_cons_succ])
        go_cut [] (fun wc => ∃ (kq : Nat) (x269001_8 : Int), Aside0 (changelinglaw05_FixSides.j1 kq a0 a2 (⟨#[]⟩ : ByteArray) x269001_8 a1 0 0 = some r) ∧ Aside0 (kq ≤ kj3) ∧ Aside0 (wc.heap[gb268]? = some (.cells #[.string (⟨#[]⟩ : ByteArray), .int .i64 x269001_8, .int .i64 a1, .int .i64 0, .int .i64 0] 36 (0, 0))) ∧ Aside0 (Below w.heap.size w wc))
        case first =>
          have H := HC9.out
          clear HC9
          by_cases c12 : a2 = true
          · subst c12
            have H1 : (changelinglaw05_FixSides.j1 kj3 a0 true (⟨#[]⟩ : ByteArray) 1 a1 0 0) = some r := by rw [if_pos rfl] at H; exact H
            clear H
            have H := H1
            clear H1
            have H' := Aside0.mk H
            clear H
            have hcz13_0 : w10.cell? ⟨gb268, 0, none⟩ = some (.string (⟨#[]⟩ : ByteArray)) := (blk_cell BK268.out 0).trans rfl
            have hcz13_1 : w10.cell? ⟨gb268, 1, none⟩ = some (.int .i64 0) := (blk_cell BK268.out 1).trans rfl
            have hcz13_2 : w10.cell? ⟨gb268, 2, none⟩ = some (.int .i64 0) := (blk_cell BK268.out 2).trans rfl
            have hcz13_3 : w10.cell? ⟨gb268, 3, none⟩ = some (.int .i64 0) := (blk_cell BK268.out 3).trans rfl
            have hcz13_4 : w10.cell? ⟨gb268, 4, none⟩ = some (.int .i64 0) := (blk_cell BK268.out 4).trans rfl
            have hfz13_0 := blk_frozen BK268.out 0
            have hfz13_1 := blk_frozen BK268.out 1
            have hfz13_2 := blk_frozen BK268.out 2
            have hfz13_3 := blk_frozen BK268.out 3
            have hfz13_4 := blk_frozen BK268.out 4
            go_wp2
            go_meet
            case rel => exact ⟨_, (1), H', ⟨by have := HJ3.out; first | omega | exact Nat.le_refl _⟩, ⟨by (with_reducible repeat (first | refine blk_drewN ?_ _ | refine blk_drew ?_ | refine blk_alloc ?_ _)); refine blk_put (cs := #[.string (⟨#[]⟩ : ByteArray), .int .i64 2, .int .i64 a1, .int .i64 0, .int .i64 0]) ?_ 1 _ rfl; (with_reducible repeat (first | refine blk_drewN ?_ _ | refine blk_drew ?_ | refine blk_alloc ?_ _)); refine blk_put (cs := #[.string (⟨#[]⟩ : ByteArray), .int .i64 2, .int .i64 a1, .int .i64 0, .int .i64 0]) ?_ 4 _ rfl; (with_reducible repeat (first | refine blk_drewN ?_ _ | refine blk_drew ?_ | refine blk_alloc ?_ _)); refine blk_put (cs := #[.string (⟨#[]⟩ : ByteArray), .int .i64 2, .int .i64 a1, .int .i64 0, .int .i64 0]) ?_ 3 _ rfl; (with_reducible repeat (first | refine blk_drewN ?_ _ | refine blk_drew ?_ | refine blk_alloc ?_ _)); refine blk_put (cs := #[.string (⟨#[]⟩ : ByteArray), .int .i64 2, .int .i64 0, .int .i64 0, .int .i64 0]) ?_ 2 _ rfl; (with_reducible repeat (first | refine blk_drewN ?_ _ | refine blk_drew ?_ | refine blk_alloc ?_ _)); refine blk_put (cs := #[.string (⟨#[]⟩ : ByteArray), .int .i64 0, .int .i64 0, .int .i64 0, .int .i64 0]) ?_ 1 _ rfl; (with_reducible repeat (first | refine blk_drewN ?_ _ | refine blk_drew ?_ | refine blk_alloc ?_ _)); refine blk_put (cs := #[.string (⟨#[]⟩ : ByteArray), .int .i64 0, .int .i64 0, .int .i64 0, .int .i64 0]) ?_ 0 _ rfl; (with_reducible repeat (first | refine blk_drewN ?_ _ | refine blk_drew ?_ | refine blk_alloc ?_ _)); exact BK268.out⟩, ⟨by repeat (first | (with_reducible first | exact HB.out | apply below_alloc | apply pw_below_drewN | apply below_drew1 | refine below_set ?_ GE268.out) | exact HB.out)⟩⟩
          · replace c12 := Bool.eq_false_iff.mpr c12
            subst c12
            have H1 : (changelinglaw05_FixSides.j1 kj3 a0 false (⟨#[]⟩ : ByteArray) 2 a1 0 0) = some r := by rw [if_neg (show ¬ (false = true) by decide)] at H; exact H
            clear H
            have H := H1
            clear H1
            have H' := Aside0.mk H
            clear H
            go_wp2
            go_meet
            case rel => exact ⟨_, (2), H', ⟨by have := HJ3.out; first | omega | exact Nat.le_refl _⟩, ⟨by (with_reducible repeat (first | refine blk_drewN ?_ _ | refine blk_drew ?_ | refine blk_alloc ?_ _)); refine blk_put (cs := #[.string (⟨#[]⟩ : ByteArray), .int .i64 2, .int .i64 a1, .int .i64 0, .int .i64 0]) ?_ 4 _ rfl; (with_reducible repeat (first | refine blk_drewN ?_ _ | refine blk_drew ?_ | refine blk_alloc ?_ _)); refine blk_put (cs := #[.string (⟨#[]⟩ : ByteArray), .int .i64 2, .int .i64 a1, .int .i64 0, .int .i64 0]) ?_ 3 _ rfl; (with_reducible repeat (first | refine blk_drewN ?_ _ | refine blk_drew ?_ | refine blk_alloc ?_ _)); refine blk_put (cs := #[.string (⟨#[]⟩ : ByteArray), .int .i64 2, .int .i64 0, .int .i64 0, .int .i64 0]) ?_ 2 _ rfl; (with_reducible repeat (first | refine blk_drewN ?_ _ | refine blk_drew ?_ | refine blk_alloc ?_ _)); refine blk_put (cs := #[.string (⟨#[]⟩ : ByteArray), .int .i64 0, .int .i64 0, .int .i64 0, .int .i64 0]) ?_ 1 _ rfl; (with_reducible repeat (first | refine blk_drewN ?_ _ | refine blk_drew ?_ | refine blk_alloc ?_ _)); refine blk_put (cs := #[.string (⟨#[]⟩ : ByteArray), .int .i64 0, .int .i64 0, .int .i64 0, .int .i64 0]) ?_ 0 _ rfl; (with_reducible repeat (first | refine blk_drewN ?_ _ | refine blk_drew ?_ | refine blk_alloc ?_ _)); exact BK268.out⟩, ⟨by repeat (first | (with_reducible first | exact HB.out | apply below_alloc | apply pw_below_drewN | apply below_drew1 | refine below_set ?_ GE268.out) | exact HB.out)⟩⟩
        case rest =>
          clear HC9
          try clear c1
          try clear p2
          try clear c5
          try clear c5b0
          try clear c6
          try clear c12
          try clear hcz11_0
          try clear hcz11_1
          try clear hcz11_2
          try clear hcz11_3
          try clear hcz11_4
          try clear hcz13_0
          try clear hcz13_1
          try clear hcz13_2
          try clear hcz13_3
          try clear hcz13_4
          try clear hfz11_0
          try clear hfz11_1
          try clear hfz11_2
          try clear hfz11_3
          try clear hfz11_4
          try clear hfz13_0
          try clear hfz13_1
          try clear hfz13_2
          try clear hfz13_3
          try clear hfz13_4
          try clear p2
          obtain ⟨kq, x269001_8, HA, HJ8, BK268, HB⟩ := hcut
          cases kq with
          | zero => exact absurd HA.out (by simp [changelinglaw05_FixSides.j1])
          | succ kj8 =>
            have H := HA.out
            clear HA
            simp only [changelinglaw05_FixSides.j1] at H
            have H' := Aside0.mk H
            clear H
            go_wp2
            go_loopg [8, 9] kj8 (fun kq v8 v9 w' => ∃ (x8_3 : List (S36)) (x9_3 : Int), v9 = .int .i64 x9_3 ∧ Aside0 (changelinglaw05_FixSides.l0 kq a0 a2 x8_3 x9_3 (⟨#[]⟩ : ByteArray) x269001_8 a1 0 0 = some r) ∧ Aside0 (kq ≤ kj8) ∧ Aside0 (Kd.R k36 36 w' w.heap.size (fun k_ => k_ ≠ gb268) v8 x8_3) ∧ Aside0 (w'.heap[gb268]? = some (.cells #[.string (⟨#[]⟩ : ByteArray), .int .i64 x269001_8, .int .i64 a1, .int .i64 0, .int .i64 0] 36 (0, 0))) ∧ Aside0 (Below w.heap.size w w'))
            case atStart => exact ⟨(([] : List (S36))), (0), (by first | rfl | (simp; done) | (simp [*]; done)), H', ⟨Nat.le_refl _⟩, ⟨by first | exact Kd.R_nil _ _ _ _ _ | exact Kd.N_nil _ _ _ _ _ | exact Kd.V_nil _ _ _ _ _ | exact Kd.Q_nil _ _ _ _ _ | exact Kd.S_nil _ _ _ _ _⟩, ⟨by (with_reducible repeat (first | refine blk_drewN ?_ _ | refine blk_drew ?_ | refine blk_alloc ?_ _)); exact BK268.out⟩, ⟨by repeat (first | (with_reducible first | exact HB.out | apply below_alloc | apply pw_below_drewN | apply below_drew1 | refine below_set ?_ GE268.out) | exact HB.out)⟩⟩
            case round =>
              clear H'
              try clear c1
              try clear p2
              try clear c5
              try clear c5b0
              try clear c6
              try clear c12
              try clear hcz11_0
              try clear hcz11_1
              try clear hcz11_2
              try clear hcz11_3
              try clear hcz11_4
              try clear hcz13_0
              try clear hcz13_1
              try clear hcz13_2
              try clear hcz13_3
              try clear hcz13_4
              try clear hfz11_0
              try clear hfz11_1
              try clear hfz11_2
              try clear hfz11_3
              try clear hfz11_4
              try clear hfz13_0
              try clear hfz13_1
              try clear hfz13_2
              try clear hfz13_3
              try clear hfz13_4
              try clear p2
              obtain ⟨x8_3, x9_3, rfl, HA, HK3, HO_8, BK268, HB⟩ := hrel
              cases gk with
              | zero => exact absurd HA.out (by simp [changelinglaw05_FixSides.l0])
              | succ k3 =>
                have H := HA.out
                clear HA
                simp only [changelinglaw05_FixSides.l0] at H
                by_cases c14 : x9_3 < a0
                · rw [if_pos c14] at H
                  have c14b0 : decide (x9_3 < a0) = true := decide_eq_true c14
                  clear c14
                  by_cases c15 : x8_3.length < 2932031007402
                  · rw [if_pos c15] at H
                    have LMc15 := Aside0.mk c15
                    clear c15
                    obtain ⟨y269, hy269⟩ : ∃ y_ : List (S36), y_ = (x8_3 ++ [(⟨(⟨#[]⟩ : ByteArray), x269001_8, a1, (⟨0, 0⟩ : S34)⟩ : S36)]) := ⟨_, rfl⟩
                    replace H : (changelinglaw05_FixSides.l0 k3 a0 a2 y269 (wrap64 (x9_3 + 1)) (⟨#[]⟩ : ByteArray) x269001_8 a1 0 0) = some r := by first | (rw [hy269]; with_reducible exact H) | (have H2_ := (Option.bind_some _ _).symm.trans H; rw [hy269]; with_reducible exact H2_) | (have H2_ := (Option.bind_some _ _).symm.trans H; with_reducible exact H2_) | with_reducible exact H | (rw [hy269]; exact H) | exact H
                    have Ny269 := Aside0.mk hy269
                    clear hy269
                    have H' := Aside0.mk H
                    clear H
                    have hcz16_0 : wr.cell? ⟨gb268, 0, none⟩ = some (.string (⟨#[]⟩ : ByteArray)) := (blk_cell BK268.out 0).trans rfl
                    have hcz16_1 : wr.cell? ⟨gb268, 1, none⟩ = some (.int .i64 x269001_8) := (blk_cell BK268.out 1).trans rfl
                    have hcz16_2 : wr.cell? ⟨gb268, 2, none⟩ = some (.int .i64 a1) := (blk_cell BK268.out 2).trans rfl
                    have hcz16_3 : wr.cell? ⟨gb268, 3, none⟩ = some (.int .i64 0) := (blk_cell BK268.out 3).trans rfl
                    have hcz16_4 : wr.cell? ⟨gb268, 4, none⟩ = some (.int .i64 0) := (blk_cell BK268.out 4).trans rfl
                    have hfz16_0 := blk_frozen BK268.out 0
                    have hfz16_1 := blk_frozen BK268.out 1
                    have hfz16_2 := blk_frozen BK268.out 2
                    have hfz16_3 := blk_frozen BK268.out 3
                    have hfz16_4 := blk_frozen BK268.out 4
                    go_wp2_with (first | ((with_reducible refine gate_builtin (b := .append) (xs := #[.tmp 30, .tmp 32]) rfl ?_); (try (refine gate_guard (by rfl) ?_; dsimp only)); at_builtin; refine Kd.R_append k36 (w0 := w) w.heap.size rfl (.tmp 30) (.tmp 32) 22 36 (.agg #[(.string ⟨#[]⟩), (.int .i64 0), (.int .i64 0), (.int .i64 0), (.int .i64 0)]) 48 rfl Try.underlying22 info36 rfl (by decide) (by omega) u8 x8_3 (⟨(⟨#[]⟩ : ByteArray), x269001_8, a1, (⟨0, 0⟩ : S34)⟩ : S36) [.string (⟨#[]⟩ : ByteArray), .int .i64 x269001_8, .int .i64 a1, .int .i64 0, .int .i64 0] (fun k_ => k_ ≠ gb268) (fun _ => False) rfl rfl ?aP (fun _ hk => hk.elim) ?aF ?aO ?aB ?aS ?aL ?_; (case aP => exact k36_mkM _ _ _ (⟨(⟨#[]⟩ : ByteArray), x269001_8, a1, (⟨0, 0⟩ : S34)⟩ : S36)); (case aB => exact (by repeat (first | (with_reducible first | exact HB.out | apply below_alloc | apply pw_below_drewN | apply below_drew1 | refine below_set ?_ GE268.out) | exact HB.out))); (case aF => exact (fun k_ hk => Kd.freshB (g := gb268) (o := .cells #[.string (⟨#[]⟩ : ByteArray), .int .i64 x269001_8, .int .i64 a1, .int .i64 0, .int .i64 0] 36 (0, 0)) (by (with_reducible repeat (first | refine blk_drewN ?_ _ | refine blk_drew ?_ | refine blk_alloc ?_ _)); exact BK268.out) k_ hk)); (case aO => exact (by (with_reducible repeat (first | apply Kd.R_alloc | apply Kd.R_drewN | apply Kd.R_drew)); exact HO_8.out)); (case aS => exact (below_size (by repeat (first | (with_reducible first | exact HB.out | apply below_alloc | apply pw_below_drewN | apply below_drew1 | refine below_set ?_ GE268.out) | exact HB.out)))); (case aL => have := LMc15.out; omega); intro v270 w17 ho hb hg hat; rw [← Ny269.out] at ho; have n0_ := Aside0.mk (blk_grown (g := gb268) (o := .cells #[.string (⟨#[]⟩ : ByteArray), .int .i64 x269001_8, .int .i64 a1, .int .i64 0, .int .i64 0] 36 (0, 0)) (by (with_reducible repeat (first | refine blk_drewN ?_ _ | refine blk_drew ?_ | refine blk_alloc ?_ _)); exact BK268.out) hg (Kd.R_away HO_8.out (fun _ hk => hk))); have n1_ := Aside0.mk (hb); have n2_ := Aside0.mk (ho); clear BK268; clear HB; clear HO_8; have BK268 := n0_; have HB := n1_; have HO271 := n2_; clear n0_ n1_ n2_; clear ho hb hg hat))
                    go_roundg k3
                    case measure => have := HJ3.out; have := HJ8.out; have := HK3.out; omega
                    case rel => exact ⟨(y269), (wrap64 (x9_3 + 1)), (by first | rfl | (simp; done) | (simp [*]; done)), H', ⟨by have := HJ3.out; have := HJ8.out; have := HK3.out; omega⟩, ⟨by (with_reducible repeat (first | apply Kd.R_alloc | apply Kd.R_drewN | apply Kd.R_drew)); exact HO271.out⟩, ⟨by (with_reducible repeat (first | refine blk_drewN ?_ _ | refine blk_drew ?_ | refine blk_alloc ?_ _)); exact BK268.out⟩, ⟨by repeat (first | (with_reducible first | exact HB.out | apply below_alloc | apply pw_below_drewN | apply below_drew1 | refine below_set ?_ GE268.out) | exact HB.out)⟩⟩
                  · rw [if_neg c15] at H
                    exact absurd H (by simp)
                · rw [if_neg c14] at H
                  have c14b0 : decide (x9_3 < a0) = false := decide_eq_false c14
                  clear c14
                  replace H := Option.bind_eq_some_iff.mp H
                  obtain ⟨⟨t272, t273, t274⟩, A180, H⟩ := H
                  replace H : (if a0 > 0 then ((changelingref05_Right.f (⟨#[]⟩ : ByteArray) x269001_8 a1 0 0).bind fun t277 => (changelinglaw05_FixSides.j3 k3 a0 a2 t272 t273 t274 (!t277))) else (changelinglaw05_FixSides.j3 k3 a0 a2 t272 t273 t274 false)) = some r := H
                  have A18 := Aside0.mk A180
                  clear A180
                  have HC19 := Aside0.mk H
                  clear H
                  obtain ⟨Ao20, co20, eo20⟩ := Kd.R_slice HO_8.out
                  subst eo20
                  go_upto_region 12 with (first | ((with_reducible refine gate_callee (f := 9) rfl ?_); refine goesL_ (some 36) rfl rfl Try.func9 (by kernel_rfl) rfl #[.slice Ao20 x8_3.length co20] rfl (by (try simp only [List.map_toArray, List.map_cons, List.map_nil]); first | done | rfl | (simp only [List.length_drop, List.length_take]; rfl)) ?_; (with_reducible refine (fix_Resolve.calls _ _ x8_3 t272 t273 t274 _ ?side1 ?side2 A18.out).mono ?_); (case side1 => repeat (first | exact (Kd.R_reads' HO_8.out).2.2 | (with_reducible refine Kd.C_alloc ?_ _) | (with_reducible refine Kd.C_drewN ?_ _) | (with_reducible refine Kd.C_drew ?_))); (case side2 => exact (Kd.R_reads' HO_8.out).2.1); rintro e w21 ⟨v275, rfl, ho0, hb⟩; refine ⟨_, rfl, ?_⟩; have n0_ := Aside0.mk (Kd.R_below (by (with_reducible repeat (first | apply Kd.R_alloc | apply Kd.R_drewN | apply Kd.R_drew)); exact HO_8.out) hb); have n1_ := Aside0.mk (Kd.R_lower ho0 (below_size (by repeat (first | (with_reducible first | exact HB.out | apply below_alloc | apply pw_below_drewN | apply below_drew1 | refine below_set ?_ GE268.out) | exact HB.out)))); have n2_ := Aside0.mk (blk_below (g := gb268) (o := .cells #[.string (⟨#[]⟩ : ByteArray), .int .i64 x269001_8, .int .i64 a1, .int .i64 0, .int .i64 0] 36 (0, 0)) (by (with_reducible repeat (first | refine blk_drewN ?_ _ | refine blk_drew ?_ | refine blk_alloc ?_ _)); exact BK268.out) hb); have n3_ := Aside0.mk (below_step (by repeat (first | (with_reducible first | exact HB.out | apply below_alloc | apply pw_below_drewN | apply below_drew1 | refine below_set ?_ GE268.out) | exact HB.out)) hb); clear HO_8; clear BK268; clear HB; have HO_8 := n0_; have HO276 := n1_; have BK268 := n2_; have HB := n3_; clear n0_ n1_ n2_ n3_; (try clear hb); (try clear hb2); (try clear hk); (try clear hi); (try clear ho0)))
                  (try simp only [Act.put, List.setIfInBounds_toArray, List.set_cons_zero, List.set_cons_succ])
                  go_cut [46] (fun v46 wc => ∃ (kq : Nat) (x46_18 : Bool), v46 = .bool x46_18 ∧ Aside0 (changelinglaw05_FixSides.j3 kq a0 a2 t272 t273 t274 x46_18 = some r) ∧ Aside0 (kq ≤ k3) ∧ Aside0 (Kd.R k32 32 wc w.heap.size (fun _ => True) v275 t272) ∧ Aside0 (wc.heap[gb268]? = some (.cells #[.string (⟨#[]⟩ : ByteArray), .int .i64 x269001_8, .int .i64 a1, .int .i64 0, .int .i64 0] 36 (0, 0))) ∧ Aside0 (Below w.heap.size w wc))
                  case first =>
                    have H := HC19.out
                    clear HC19
                    by_cases c22 : a0 > 0
                    · rw [if_pos c22] at H
                      have c22b0 : decide (0 < a0) = true := decide_eq_true c22
                      clear c22
                      (first | rw [c22b0] | (simp only [i64_w, i32_w]; rw [c22b0]) | skip)
                      replace H := Option.bind_eq_some_iff.mp H
                      obtain ⟨t277, A230, H⟩ := H
                      replace H : (changelinglaw05_FixSides.j3 k3 a0 a2 t272 t273 t274 (!t277)) = some r := H
                      have A23 := Aside0.mk A230
                      clear A230
                      have H' := Aside0.mk H
                      clear H
                      have hcz24_0 : w21.cell? ⟨gb268, 0, none⟩ = some (.string (⟨#[]⟩ : ByteArray)) := (blk_cell BK268.out 0).trans rfl
                      have hcz24_1 : w21.cell? ⟨gb268, 1, none⟩ = some (.int .i64 x269001_8) := (blk_cell BK268.out 1).trans rfl
                      have hcz24_2 : w21.cell? ⟨gb268, 2, none⟩ = some (.int .i64 a1) := (blk_cell BK268.out 2).trans rfl
                      have hcz24_3 : w21.cell? ⟨gb268, 3, none⟩ = some (.int .i64 0) := (blk_cell BK268.out 3).trans rfl
                      have hcz24_4 : w21.cell? ⟨gb268, 4, none⟩ = some (.int .i64 0) := (blk_cell BK268.out 4).trans rfl
                      have hfz24_0 := blk_frozen BK268.out 0
                      have hfz24_1 := blk_frozen BK268.out 1
                      have hfz24_2 := blk_frozen BK268.out 2
                      have hfz24_3 := blk_frozen BK268.out 3
                      have hfz24_4 := blk_frozen BK268.out 4
                      go_wp2_with (first | (go_at_call 14; (with_reducible refine (changelingref05_Right.calls (⟨#[]⟩ : ByteArray) x269001_8 a1 0 0 t277 _ A23.out).mono ?_); rintro e w25 ⟨rfl, hb⟩; have n0_ := Aside0.mk (Kd.R_below (by (with_reducible repeat (first | apply Kd.R_alloc | apply Kd.R_drewN | apply Kd.R_drew)); exact HO_8.out) hb); have n1_ := Aside0.mk (Kd.R_below (by (with_reducible repeat (first | apply Kd.R_alloc | apply Kd.R_drewN | apply Kd.R_drew)); exact HO276.out) hb); have n2_ := Aside0.mk (blk_below (g := gb268) (o := .cells #[.string (⟨#[]⟩ : ByteArray), .int .i64 x269001_8, .int .i64 a1, .int .i64 0, .int .i64 0] 36 (0, 0)) (by (with_reducible repeat (first | refine blk_drewN ?_ _ | refine blk_drew ?_ | refine blk_alloc ?_ _)); exact BK268.out) hb); have n3_ := Aside0.mk (below_step (by repeat (first | (with_reducible first | exact HB.out | apply below_alloc | apply pw_below_drewN | apply below_drew1 | refine below_set ?_ GE268.out) | exact HB.out)) hb); clear HO_8; clear HO276; clear BK268; clear HB; have HO_8 := n0_; have HO276 := n1_; have BK268 := n2_; have HB := n3_; clear n0_ n1_ n2_ n3_; (try clear hb); (try clear hb2); (try clear hk); (try clear hi)))
                      go_meet
                      case rel => exact ⟨_, (!t277), (by first | rfl | (simp; done) | (simp [*]; done)), H', ⟨by have := HJ3.out; have := HJ8.out; have := HK3.out; first | omega | exact Nat.le_refl _⟩, ⟨by (with_reducible repeat (first | apply Kd.R_alloc | apply Kd.R_drewN | apply Kd.R_drew)); exact HO276.out⟩, ⟨by (with_reducible repeat (first | refine blk_drewN ?_ _ | refine blk_drew ?_ | refine blk_alloc ?_ _)); exact BK268.out⟩, ⟨by repeat (first | (with_reducible first | exact HB.out | apply below_alloc | apply pw_below_drewN | apply below_drew1 | refine below_set ?_ GE268.out) | exact HB.out)⟩⟩
                    · rw [if_neg c22] at H
                      have c22b0 : decide (0 < a0) = false := decide_eq_false c22
                      clear c22
                      (first | rw [c22b0] | (simp only [i64_w, i32_w]; rw [c22b0]) | skip)
                      have H' := Aside0.mk H
                      clear H
                      go_wp2
                      go_meet
                      case rel => exact ⟨_, (false), (by first | rfl | (simp; done) | (simp [*]; done)), H', ⟨by have := HJ3.out; have := HJ8.out; have := HK3.out; first | omega | exact Nat.le_refl _⟩, ⟨by (with_reducible repeat (first | apply Kd.R_alloc | apply Kd.R_drewN | apply Kd.R_drew)); exact HO276.out⟩, ⟨by (with_reducible repeat (first | refine blk_drewN ?_ _ | refine blk_drew ?_ | refine blk_alloc ?_ _)); exact BK268.out⟩, ⟨by repeat (first | (with_reducible first | exact HB.out | apply below_alloc | apply pw_below_drewN | apply below_drew1 | refine below_set ?_ GE268.out) | exact HB.out)⟩⟩
                  case rest =>
                    clear HC19
                    try clear c1
                    try clear c2
                    try clear p2
                    try clear c5
                    try clear c5b0
                    try clear c6
                    try clear p6
                    try clear c9
                    try clear c12
                    try clear c14
                    try clear c14b0
                    try clear c15
                    try clear c22
                    try clear c22b0
                    try clear hcz11_0
                    try clear hcz11_1
                    try clear hcz11_2
                    try clear hcz11_3
                    try clear hcz11_4
                    try clear hcz13_0
                    try clear hcz13_1
                    try clear hcz13_2
                    try clear hcz13_3
                    try clear hcz13_4
                    try clear hcz16_0
                    try clear hcz16_1
                    try clear hcz16_2
                    try clear hcz16_3
                    try clear hcz16_4
                    try clear hcz24_0
                    try clear hcz24_1
                    try clear hcz24_2
                    try clear hcz24_3
                    try clear hcz24_4
                    try clear hfz11_0
                    try clear hfz11_1
                    try clear hfz11_2
                    try clear hfz11_3
                    try clear hfz11_4
                    try clear hfz13_0
                    try clear hfz13_1
                    try clear hfz13_2
                    try clear hfz13_3
                    try clear hfz13_4
                    try clear hfz16_0
                    try clear hfz16_1
                    try clear hfz16_2
                    try clear hfz16_3
                    try clear hfz16_4
                    try clear hfz24_0
                    try clear hfz24_1
                    try clear hfz24_2
                    try clear hfz24_3
                    try clear hfz24_4
                    try clear p2
                    obtain ⟨kq, x46_18, rfl, HA, HJ18, HO_10, BK268, HB⟩ := hcut
                    cases kq with
                    | zero => exact absurd HA.out (by simp [changelinglaw05_FixSides.j3])
                    | succ kj18 =>
                      have H := HA.out
                      clear HA
                      simp only [changelinglaw05_FixSides.j3] at H
                      by_cases c26 : x46_18 = true
                      · subst c26
                        have H1 : (if t274 = 1 then (if t273 = 0 then (if (t272.length : Int) = 0 then ((changelinglaw05_known.f kj18).bind fun t278 => (some t278)) else (some false)) else (some false)) else (some false)) = some r := by rw [if_pos rfl] at H; exact H
                        clear H
                        have H := H1
                        clear H1
                        by_cases c27 : t274 = 1
                        · rw [if_pos c27] at H
                          have c27b0 : (t274 == 1) = true := beq_iff_eq.mpr c27
                          have c27b1 : (t274 != 1) = false := bne_eq_false_iff_eq.mpr c27
                          clear c27
                          by_cases c28 : t273 = 0
                          · rw [if_pos c28] at H
                            have c28b0 : (t273 == 0) = true := beq_iff_eq.mpr c28
                            have c28b1 : (t273 != 0) = false := bne_eq_false_iff_eq.mpr c28
                            clear c28
                            by_cases c29 : (t272.length : Int) = 0
                            · rw [if_pos c29] at H
                              have c29b0 : ((t272.length : Int) == 0) = true := beq_iff_eq.mpr c29
                              have c29b1 : ((t272.length : Int) != 0) = false := bne_eq_false_iff_eq.mpr c29
                              clear c29
                              replace H := Option.bind_eq_some_iff.mp H
                              obtain ⟨t278, A300, H⟩ := H
                              replace H : (some t278) = some r := H
                              have A30 := Aside0.mk A300
                              clear A300
                              obtain rfl := Option.some.inj H
                              obtain ⟨Ao31, co31, eo31⟩ := Kd.R_slice HO_10.out
                              subst eo31
                              go_wp2_with (first | (go_at_call 12; (with_reducible refine (changelinglaw05_known.calls kj18  t278 _ A30.out).mono ?_); rintro e w32 ⟨rfl, hb⟩; have n0_ := Aside0.mk (Kd.R_below (by (with_reducible repeat (first | apply Kd.R_alloc | apply Kd.R_drewN | apply Kd.R_drew)); exact HO_10.out) hb); have n1_ := Aside0.mk (blk_below (g := gb268) (o := .cells #[.string (⟨#[]⟩ : ByteArray), .int .i64 x269001_8, .int .i64 a1, .int .i64 0, .int .i64 0] 36 (0, 0)) (by (with_reducible repeat (first | refine blk_drewN ?_ _ | refine blk_drew ?_ | refine blk_alloc ?_ _)); exact BK268.out) hb); have n2_ := Aside0.mk (below_step (by repeat (first | (with_reducible first | exact HB.out | apply below_alloc | apply pw_below_drewN | apply below_drew1 | refine below_set ?_ GE268.out) | exact HB.out)) hb); clear HO_10; clear BK268; clear HB; have HO_10 := n0_; have BK268 := n1_; have HB := n2_; clear n0_ n1_ n2_; (try clear hb); (try clear hb2); (try clear hk); (try clear hi)))
                              go_ret
                              exact ⟨by first | rfl | (simp [errW_none, errW_some] <;> rfl) | (simp [*, errW_none, errW_some] <;> rfl), by repeat (first | (with_reducible first | exact HB.out | apply below_alloc | apply pw_below_drewN | apply below_drew1 | refine below_set ?_ GE268.out) | exact HB.out)⟩
                            · rw [if_neg c29] at H
                              have c29b0 : ((t272.length : Int) == 0) = false := beq_eq_false_iff_ne.mpr c29
                              have c29b1 : ((t272.length : Int) != 0) = true := bne_iff_ne.mpr c29
                              have c29b2 : ¬ (t272 = []) := fun h_ => c29 (by rw [h_]; rfl)
                              obtain rfl := Option.some.inj H
                              obtain ⟨Ao33, co33, eo33⟩ := Kd.R_slice HO_10.out
                              subst eo33
                              go_wp2
                              go_ret
                              exact ⟨by first | rfl | (simp [errW_none, errW_some] <;> rfl) | (simp [*, errW_none, errW_some] <;> rfl), by repeat (first | (with_reducible first | exact HB.out | apply below_alloc | apply pw_below_drewN | apply below_drew1 | refine below_set ?_ GE268.out) | exact HB.out)⟩
                          · rw [if_neg c28] at H
                            have c28b0 : (t273 == 0) = false := beq_eq_false_iff_ne.mpr c28
                            have c28b1 : (t273 != 0) = true := bne_iff_ne.mpr c28
                            obtain rfl := Option.some.inj H
                            go_wp2
                            go_ret
                            exact ⟨by first | rfl | (simp [errW_none, errW_some] <;> rfl) | (simp [*, errW_none, errW_some] <;> rfl), by repeat (first | (with_reducible first | exact HB.out | apply below_alloc | apply pw_below_drewN | apply below_drew1 | refine below_set ?_ GE268.out) | exact HB.out)⟩
                        · rw [if_neg c27] at H
                          have c27b0 : (t274 == 1) = false := beq_eq_false_iff_ne.mpr c27
                          have c27b1 : (t274 != 1) = true := bne_iff_ne.mpr c27
                          obtain rfl := Option.some.inj H
                          go_wp2
                          go_ret
                          exact ⟨by first | rfl | (simp [errW_none, errW_some] <;> rfl) | (simp [*, errW_none, errW_some] <;> rfl), by repeat (first | (with_reducible first | exact HB.out | apply below_alloc | apply pw_below_drewN | apply below_drew1 | refine below_set ?_ GE268.out) | exact HB.out)⟩
                      · replace c26 := Bool.eq_false_iff.mpr c26
                        subst c26
                        have H1 : (if t274 = 0 then (changelinglaw05_FixSides.j4 kj18 a0 a2 t272 ((t272.length : Int) != a0)) else (changelinglaw05_FixSides.j4 kj18 a0 a2 t272 true)) = some r := by rw [if_neg (show ¬ (false = true) by decide)] at H; exact H
                        clear H
                        have H := H1
                        clear H1
                        have HC34 := Aside0.mk H
                        clear H
                        go_upto_region 14 with (fail)
                        go_cut [68] (fun v68 wc => ∃ (kq : Nat) (x68_33 : Bool), v68 = .bool x68_33 ∧ Aside0 (changelinglaw05_FixSides.j4 kq a0 a2 t272 x68_33 = some r) ∧ Aside0 (kq ≤ kj18) ∧ Aside0 (Kd.R k32 32 wc w.heap.size (fun _ => True) v275 t272) ∧ Aside0 (wc.heap[gb268]? = some (.cells #[.string (⟨#[]⟩ : ByteArray), .int .i64 x269001_8, .int .i64 a1, .int .i64 0, .int .i64 0] 36 (0, 0))) ∧ Aside0 (Below w.heap.size w wc))
                        case first =>
                          have H := HC34.out
                          clear HC34
                          by_cases c35 : t274 = 0
                          · rw [if_pos c35] at H
                            have c35b0 : (t274 == 0) = true := beq_iff_eq.mpr c35
                            have c35b1 : (t274 != 0) = false := bne_eq_false_iff_eq.mpr c35
                            clear c35
                            (first | rw [c35b0] | (simp only [i64_w, i32_w]; rw [c35b0]) | skip)
                            have H' := Aside0.mk H
                            clear H
                            obtain ⟨Ao36, co36, eo36⟩ := Kd.R_slice HO_10.out
                            subst eo36
                            go_wp2
                            go_meet
                            case rel => exact ⟨_, (((t272.length : Int) != a0)), (by first | rfl | (simp; done) | (simp [*]; done)), H', ⟨by have := HJ3.out; have := HJ8.out; have := HK3.out; have := HJ18.out; first | omega | exact Nat.le_refl _⟩, ⟨by (with_reducible repeat (first | apply Kd.R_alloc | apply Kd.R_drewN | apply Kd.R_drew)); exact HO_10.out⟩, ⟨by (with_reducible repeat (first | refine blk_drewN ?_ _ | refine blk_drew ?_ | refine blk_alloc ?_ _)); exact BK268.out⟩, ⟨by repeat (first | (with_reducible first | exact HB.out | apply below_alloc | apply pw_below_drewN | apply below_drew1 | refine below_set ?_ GE268.out) | exact HB.out)⟩⟩
                          · rw [if_neg c35] at H
                            have c35b0 : (t274 == 0) = false := beq_eq_false_iff_ne.mpr c35
                            have c35b1 : (t274 != 0) = true := bne_iff_ne.mpr c35
                            (first | rw [c35b0] | (simp only [i64_w, i32_w]; rw [c35b0]) | skip)
                            have H' := Aside0.mk H
                            clear H
                            go_wp2
                            go_meet
                            case rel => exact ⟨_, (true), (by first | rfl | (simp; done) | (simp [*]; done)), H', ⟨by have := HJ3.out; have := HJ8.out; have := HK3.out; have := HJ18.out; first | omega | exact Nat.le_refl _⟩, ⟨by (with_reducible repeat (first | apply Kd.R_alloc | apply Kd.R_drewN | apply Kd.R_drew)); exact HO_10.out⟩, ⟨by (with_reducible repeat (first | refine blk_drewN ?_ _ | refine blk_drew ?_ | refine blk_alloc ?_ _)); exact BK268.out⟩, ⟨by repeat (first | (with_reducible first | exact HB.out | apply below_alloc | apply pw_below_drewN | apply below_drew1 | refine below_set ?_ GE268.out) | exact HB.out)⟩⟩
                        case rest =>
                          clear HC34
                          try clear c1
                          try clear c2
                          try clear p2
                          try clear c3
                          try clear c5
                          try clear c5b0
                          try clear c6
                          try clear p6
                          try clear c9
                          try clear c12
                          try clear c14
                          try clear c14b0
                          try clear c15
                          try clear c22
                          try clear c22b0
                          try clear c26
                          try clear c27
                          try clear c27b0
                          try clear c27b1
                          try clear c28
                          try clear c28b0
                          try clear c28b1
                          try clear c29
                          try clear c29b0
                          try clear c29b1
                          try clear c29b2
                          try clear c35
                          try clear c35b0
                          try clear c35b1
                          try clear hcz11_0
                          try clear hcz11_1
                          try clear hcz11_2
                          try clear hcz11_3
                          try clear hcz11_4
                          try clear hcz13_0
                          try clear hcz13_1
                          try clear hcz13_2
                          try clear hcz13_3
                          try clear hcz13_4
                          try clear hcz16_0
                          try clear hcz16_1
                          try clear hcz16_2
                          try clear hcz16_3
                          try clear hcz16_4
                          try clear hcz24_0
                          try clear hcz24_1
                          try clear hcz24_2
                          try clear hcz24_3
                          try clear hcz24_4
                          try clear hfz11_0
                          try clear hfz11_1
                          try clear hfz11_2
                          try clear hfz11_3
                          try clear hfz11_4
                          try clear hfz13_0
                          try clear hfz13_1
                          try clear hfz13_2
                          try clear hfz13_3
                          try clear hfz13_4
                          try clear hfz16_0
                          try clear hfz16_1
                          try clear hfz16_2
                          try clear hfz16_3
                          try clear hfz16_4
                          try clear hfz24_0
                          try clear hfz24_1
                          try clear hfz24_2
                          try clear hfz24_3
                          try clear hfz24_4
                          try clear p2
                          try clear p6
                          obtain ⟨kq, x68_33, rfl, HA, HJ33, HO_10, BK268, HB⟩ := hcut
                          cases kq with
                          | zero => exact absurd HA.out (by simp [changelinglaw05_FixSides.j4])
                          | succ kj33 =>
                            have H := HA.out
                            clear HA
                            simp only [changelinglaw05_FixSides.j4] at H
                            by_cases c37 : x68_33 = true
                            · subst c37
                              have H1 : (some false) = some r := by rw [if_pos rfl] at H; exact H
                              clear H
                              have H := H1
                              clear H1
                              obtain rfl := Option.some.inj H
                              go_wp2
                              go_ret
                              exact ⟨by first | rfl | (simp [errW_none, errW_some] <;> rfl) | (simp [*, errW_none, errW_some] <;> rfl), by repeat (first | (with_reducible first | exact HB.out | apply below_alloc | apply pw_below_drewN | apply below_drew1 | refine below_set ?_ GE268.out) | exact HB.out)⟩
                            · replace c37 := Bool.eq_false_iff.mpr c37
                              subst c37
                              have H1 : (changelinglaw05_FixSides.l1 kj33 a0 a2 t272 0) = some r := by rw [if_neg (show ¬ (false = true) by decide)] at H; exact H
                              clear H
                              have H := H1
                              clear H1
                              have H' := Aside0.mk H
                              clear H
                              go_wp2
                              go_loopg [13] kj33 (fun kq v13 w' => ∃ (x13_6 : Int), v13 = .int .i64 x13_6 ∧ Aside0 (changelinglaw05_FixSides.l1 kq a0 a2 t272 x13_6 = some r) ∧ Aside0 (kq ≤ kj33) ∧ Aside0 (Kd.R k32 32 w' w.heap.size (fun _ => True) v275 t272) ∧ Aside0 (w'.heap[gb268]? = some (.cells #[.string (⟨#[]⟩ : ByteArray), .int .i64 x269001_8, .int .i64 a1, .int .i64 0, .int .i64 0] 36 (0, 0))) ∧ Aside0 (Below w.heap.size w w'))
                              case atStart => exact ⟨(0), (by first | rfl | (simp; done) | (simp [*]; done)), H', ⟨Nat.le_refl _⟩, ⟨by (with_reducible repeat (first | apply Kd.R_alloc | apply Kd.R_drewN | apply Kd.R_drew)); exact HO_10.out⟩, ⟨by (with_reducible repeat (first | refine blk_drewN ?_ _ | refine blk_drew ?_ | refine blk_alloc ?_ _)); exact BK268.out⟩, ⟨by repeat (first | (with_reducible first | exact HB.out | apply below_alloc | apply pw_below_drewN | apply below_drew1 | refine below_set ?_ GE268.out) | exact HB.out)⟩⟩
                              case round =>
                                clear H'
                                try clear c1
                                try clear c2
                                try clear p2
                                try clear c3
                                try clear c5
                                try clear c5b0
                                try clear c6
                                try clear p6
                                try clear c9
                                try clear c12
                                try clear c14
                                try clear c14b0
                                try clear c15
                                try clear c22
                                try clear c22b0
                                try clear c26
                                try clear c27
                                try clear c27b0
                                try clear c27b1
                                try clear c28
                                try clear c28b0
                                try clear c28b1
                                try clear c29
                                try clear c29b0
                                try clear c29b1
                                try clear c29b2
                                try clear c35
                                try clear c35b0
                                try clear c35b1
                                try clear c37
                                try clear hcz11_0
                                try clear hcz11_1
                                try clear hcz11_2
                                try clear hcz11_3
                                try clear hcz11_4
                                try clear hcz13_0
                                try clear hcz13_1
                                try clear hcz13_2
                                try clear hcz13_3
                                try clear hcz13_4
                                try clear hcz16_0
                                try clear hcz16_1
                                try clear hcz16_2
                                try clear hcz16_3
                                try clear hcz16_4
                                try clear hcz24_0
                                try clear hcz24_1
                                try clear hcz24_2
                                try clear hcz24_3
                                try clear hcz24_4
                                try clear hfz11_0
                                try clear hfz11_1
                                try clear hfz11_2
                                try clear hfz11_3
                                try clear hfz11_4
                                try clear hfz13_0
                                try clear hfz13_1
                                try clear hfz13_2
                                try clear hfz13_3
                                try clear hfz13_4
                                try clear hfz16_0
                                try clear hfz16_1
                                try clear hfz16_2
                                try clear hfz16_3
                                try clear hfz16_4
                                try clear hfz24_0
                                try clear hfz24_1
                                try clear hfz24_2
                                try clear hfz24_3
                                try clear hfz24_4
                                try clear p2
                                try clear p6
                                obtain ⟨x13_6, rfl, HA, HK6, HO_10, BK268, HB⟩ := hrel
                                cases gk with
                                | zero => exact absurd HA.out (by simp [changelinglaw05_FixSides.l1])
                                | succ k6 =>
                                  have H := HA.out
                                  clear HA
                                  simp only [changelinglaw05_FixSides.l1] at H
                                  by_cases c38 : x13_6 < a0
                                  · rw [if_pos c38] at H
                                    have c38b0 : decide (x13_6 < a0) = true := decide_eq_true c38
                                    clear c38
                                    by_cases c39 : a2 = true
                                    · subst c39
                                      have H1 : (if 0 ≤ x13_6 then (if x13_6 < (t272.length : Int) then (if ((rd_T32 t272 x13_6).f0) = 0 then (if ((rd_T32 t272 x13_6).f1) = (wrap64 (x13_6 + 1)) then (changelinglaw05_FixSides.l1 k6 a0 true t272 (wrap64 (x13_6 + 1))) else (some false)) else (some false)) else (none)) else (none)) = some r := by rw [if_pos rfl] at H; exact H
                                      clear H
                                      have H := H1
                                      clear H1
                                      by_cases c40 : 0 ≤ x13_6
                                      · rw [if_pos c40] at H
                                        have c40b0 : decide (0 ≤ x13_6) = true := decide_eq_true c40
                                        clear c40
                                        by_cases c41 : x13_6 < (t272.length : Int)
                                        · rw [if_pos c41] at H
                                          have c41b0 : decide (x13_6 < (t272.length : Int)) = true := decide_eq_true c41
                                          clear c41
                                          by_cases c42 : ((rd_T32 t272 x13_6).f0) = 0
                                          · rw [if_pos c42] at H
                                            have c42b0 : (((rd_T32 t272 x13_6).f0) == 0) = true := beq_iff_eq.mpr c42
                                            have c42b1 : (((rd_T32 t272 x13_6).f0) != 0) = false := bne_eq_false_iff_eq.mpr c42
                                            clear c42
                                            by_cases c43 : ((rd_T32 t272 x13_6).f1) = (wrap64 (x13_6 + 1))
                                            · rw [if_pos c43] at H
                                              have c43b0 : (((rd_T32 t272 x13_6).f1) == (wrap64 (x13_6 + 1))) = true := beq_iff_eq.mpr c43
                                              have c43b1 : (((rd_T32 t272 x13_6).f1) != (wrap64 (x13_6 + 1))) = false := bne_eq_false_iff_eq.mpr c43
                                              clear c43
                                              have H' := Aside0.mk H
                                              clear H
                                              obtain ⟨Ao44, co44, eo44⟩ := Kd.R_slice HO_10.out
                                              subst eo44
                                              have p279 : 0 ≤ (x13_6 : Int) := of_decide_eq_true (by first | (with_reducible assumption) | assumption)
                                              have q279 : x13_6 < (t272.length : Int) := of_decide_eq_true (by first | (with_reducible assumption) | assumption)
                                              obtain ⟨ad279, e279, hx279_0, hx279_1⟩ := at_T32 (Kd.R_reads' HO_10.out).2.2 x13_6 p279 q279
                                              cases e279
                                              replace p279 := eq_true p279
                                              replace q279 := eq_true q279
                                              have p280 : 0 ≤ (x13_6 : Int) := of_decide_eq_true (by first | (with_reducible assumption) | assumption)
                                              have q280 : x13_6 < (t272.length : Int) := of_decide_eq_true (by first | (with_reducible assumption) | assumption)
                                              obtain ⟨ad280, e280, hx280_0, hx280_1⟩ := at_T32 (Kd.R_reads' HO_10.out).2.2 x13_6 p280 q280
                                              obtain rfl : ad279 = ad280 := (by injection e280)
                                              replace p280 := eq_true p280
                                              replace q280 := eq_true q280
                                              go_wp2
                                              go_roundg k6
                                              case measure => have := HJ3.out; have := HJ8.out; have := HK3.out; have := HJ18.out; have := HJ33.out; have := HK6.out; omega
                                              case rel => exact ⟨(wrap64 (x13_6 + 1)), (by first | rfl | (simp; done) | (simp [*]; done)), H', ⟨by have := HJ3.out; have := HJ8.out; have := HK3.out; have := HJ18.out; have := HJ33.out; have := HK6.out; omega⟩, ⟨by (with_reducible repeat (first | apply Kd.R_alloc | apply Kd.R_drewN | apply Kd.R_drew)); exact HO_10.out⟩, ⟨by (with_reducible repeat (first | refine blk_drewN ?_ _ | refine blk_drew ?_ | refine blk_alloc ?_ _)); exact BK268.out⟩, ⟨by repeat (first | (with_reducible first | exact HB.out | apply below_alloc | apply pw_below_drewN | apply below_drew1 | refine below_set ?_ GE268.out) | exact HB.out)⟩⟩
                                            · rw [if_neg c43] at H
                                              have c43b0 : (((rd_T32 t272 x13_6).f1) == (wrap64 (x13_6 + 1))) = false := beq_eq_false_iff_ne.mpr c43
                                              have c43b1 : (((rd_T32 t272 x13_6).f1) != (wrap64 (x13_6 + 1))) = true := bne_iff_ne.mpr c43
                                              obtain rfl := Option.some.inj H
                                              obtain ⟨Ao45, co45, eo45⟩ := Kd.R_slice HO_10.out
                                              subst eo45
                                              have p279 : 0 ≤ (x13_6 : Int) := of_decide_eq_true (by first | (with_reducible assumption) | assumption)
                                              have q279 : x13_6 < (t272.length : Int) := of_decide_eq_true (by first | (with_reducible assumption) | assumption)
                                              obtain ⟨ad279, e279, hx279_0, hx279_1⟩ := at_T32 (Kd.R_reads' HO_10.out).2.2 x13_6 p279 q279
                                              cases e279
                                              replace p279 := eq_true p279
                                              replace q279 := eq_true q279
                                              have p280 : 0 ≤ (x13_6 : Int) := of_decide_eq_true (by first | (with_reducible assumption) | assumption)
                                              have q280 : x13_6 < (t272.length : Int) := of_decide_eq_true (by first | (with_reducible assumption) | assumption)
                                              obtain ⟨ad280, e280, hx280_0, hx280_1⟩ := at_T32 (Kd.R_reads' HO_10.out).2.2 x13_6 p280 q280
                                              obtain rfl : ad279 = ad280 := (by injection e280)
                                              replace p280 := eq_true p280
                                              replace q280 := eq_true q280
                                              go_wp2
                                              go_ret
                                              exact ⟨by first | rfl | (simp [errW_none, errW_some] <;> rfl) | (simp [*, errW_none, errW_some] <;> rfl), by repeat (first | (with_reducible first | exact HB.out | apply below_alloc | apply pw_below_drewN | apply below_drew1 | refine below_set ?_ GE268.out) | exact HB.out)⟩
                                          · rw [if_neg c42] at H
                                            have c42b0 : (((rd_T32 t272 x13_6).f0) == 0) = false := beq_eq_false_iff_ne.mpr c42
                                            have c42b1 : (((rd_T32 t272 x13_6).f0) != 0) = true := bne_iff_ne.mpr c42
                                            obtain rfl := Option.some.inj H
                                            obtain ⟨Ao46, co46, eo46⟩ := Kd.R_slice HO_10.out
                                            subst eo46
                                            have p279 : 0 ≤ (x13_6 : Int) := of_decide_eq_true (by first | (with_reducible assumption) | assumption)
                                            have q279 : x13_6 < (t272.length : Int) := of_decide_eq_true (by first | (with_reducible assumption) | assumption)
                                            obtain ⟨ad279, e279, hx279_0, hx279_1⟩ := at_T32 (Kd.R_reads' HO_10.out).2.2 x13_6 p279 q279
                                            cases e279
                                            replace p279 := eq_true p279
                                            replace q279 := eq_true q279
                                            go_wp2
                                            go_ret
                                            exact ⟨by first | rfl | (simp [errW_none, errW_some] <;> rfl) | (simp [*, errW_none, errW_some] <;> rfl), by repeat (first | (with_reducible first | exact HB.out | apply below_alloc | apply pw_below_drewN | apply below_drew1 | refine below_set ?_ GE268.out) | exact HB.out)⟩
                                        · rw [if_neg c41] at H
                                          exact absurd H (by simp)
                                      · rw [if_neg c40] at H
                                        exact absurd H (by simp)
                                    · replace c39 := Bool.eq_false_iff.mpr c39
                                      subst c39
                                      have H1 : (if 0 ≤ x13_6 then (if x13_6 < (t272.length : Int) then (if ((rd_T32 t272 x13_6).f0) = x13_6 then (if ((rd_T32 t272 x13_6).f1) = a0 then (changelinglaw05_FixSides.l1 k6 a0 false t272 (wrap64 (x13_6 + 1))) else (some false)) else (some false)) else (none)) else (none)) = some r := by rw [if_neg (show ¬ (false = true) by decide)] at H; exact H
                                      clear H
                                      have H := H1
                                      clear H1
                                      by_cases c47 : 0 ≤ x13_6
                                      · rw [if_pos c47] at H
                                        have c47b0 : decide (0 ≤ x13_6) = true := decide_eq_true c47
                                        clear c47
                                        by_cases c48 : x13_6 < (t272.length : Int)
                                        · rw [if_pos c48] at H
                                          have c48b0 : decide (x13_6 < (t272.length : Int)) = true := decide_eq_true c48
                                          clear c48
                                          by_cases c49 : ((rd_T32 t272 x13_6).f0) = x13_6
                                          · rw [if_pos c49] at H
                                            have c49b0 : (((rd_T32 t272 x13_6).f0) == x13_6) = true := beq_iff_eq.mpr c49
                                            have c49b1 : (((rd_T32 t272 x13_6).f0) != x13_6) = false := bne_eq_false_iff_eq.mpr c49
                                            clear c49
                                            by_cases c50 : ((rd_T32 t272 x13_6).f1) = a0
                                            · rw [if_pos c50] at H
                                              have c50b0 : (((rd_T32 t272 x13_6).f1) == a0) = true := beq_iff_eq.mpr c50
                                              have c50b1 : (((rd_T32 t272 x13_6).f1) != a0) = false := bne_eq_false_iff_eq.mpr c50
                                              clear c50
                                              have H' := Aside0.mk H
                                              clear H
                                              obtain ⟨Ao51, co51, eo51⟩ := Kd.R_slice HO_10.out
                                              subst eo51
                                              have p281 : 0 ≤ (x13_6 : Int) := of_decide_eq_true (by first | (with_reducible assumption) | assumption)
                                              have q281 : x13_6 < (t272.length : Int) := of_decide_eq_true (by first | (with_reducible assumption) | assumption)
                                              obtain ⟨ad281, e281, hx281_0, hx281_1⟩ := at_T32 (Kd.R_reads' HO_10.out).2.2 x13_6 p281 q281
                                              cases e281
                                              replace p281 := eq_true p281
                                              replace q281 := eq_true q281
                                              have p282 : 0 ≤ (x13_6 : Int) := of_decide_eq_true (by first | (with_reducible assumption) | assumption)
                                              have q282 : x13_6 < (t272.length : Int) := of_decide_eq_true (by first | (with_reducible assumption) | assumption)
                                              obtain ⟨ad282, e282, hx282_0, hx282_1⟩ := at_T32 (Kd.R_reads' HO_10.out).2.2 x13_6 p282 q282
                                              obtain rfl : ad281 = ad282 := (by injection e282)
                                              replace p282 := eq_true p282
                                              replace q282 := eq_true q282
                                              go_wp2
                                              go_roundg k6
                                              case measure => have := HJ3.out; have := HJ8.out; have := HK3.out; have := HJ18.out; have := HJ33.out; have := HK6.out; omega
                                              case rel => exact ⟨(wrap64 (x13_6 + 1)), (by first | rfl | (simp; done) | (simp [*]; done)), H', ⟨by have := HJ3.out; have := HJ8.out; have := HK3.out; have := HJ18.out; have := HJ33.out; have := HK6.out; omega⟩, ⟨by (with_reducible repeat (first | apply Kd.R_alloc | apply Kd.R_drewN | apply Kd.R_drew)); exact HO_10.out⟩, ⟨by (with_reducible repeat (first | refine blk_drewN ?_ _ | refine blk_drew ?_ | refine blk_alloc ?_ _)); exact BK268.out⟩, ⟨by repeat (first | (with_reducible first | exact HB.out | apply below_alloc | apply pw_below_drewN | apply below_drew1 | refine below_set ?_ GE268.out) | exact HB.out)⟩⟩
                                            · rw [if_neg c50] at H
                                              have c50b0 : (((rd_T32 t272 x13_6).f1) == a0) = false := beq_eq_false_iff_ne.mpr c50
                                              have c50b1 : (((rd_T32 t272 x13_6).f1) != a0) = true := bne_iff_ne.mpr c50
                                              obtain rfl := Option.some.inj H
                                              obtain ⟨Ao52, co52, eo52⟩ := Kd.R_slice HO_10.out
                                              subst eo52
                                              have p281 : 0 ≤ (x13_6 : Int) := of_decide_eq_true (by first | (with_reducible assumption) | assumption)
                                              have q281 : x13_6 < (t272.length : Int) := of_decide_eq_true (by first | (with_reducible assumption) | assumption)
                                              obtain ⟨ad281, e281, hx281_0, hx281_1⟩ := at_T32 (Kd.R_reads' HO_10.out).2.2 x13_6 p281 q281
                                              cases e281
                                              replace p281 := eq_true p281
                                              replace q281 := eq_true q281
                                              have p282 : 0 ≤ (x13_6 : Int) := of_decide_eq_true (by first | (with_reducible assumption) | assumption)
                                              have q282 : x13_6 < (t272.length : Int) := of_decide_eq_true (by first | (with_reducible assumption) | assumption)
                                              obtain ⟨ad282, e282, hx282_0, hx282_1⟩ := at_T32 (Kd.R_reads' HO_10.out).2.2 x13_6 p282 q282
                                              obtain rfl : ad281 = ad282 := (by injection e282)
                                              replace p282 := eq_true p282
                                              replace q282 := eq_true q282
                                              go_wp2
                                              go_ret
                                              exact ⟨by first | rfl | (simp [errW_none, errW_some] <;> rfl) | (simp [*, errW_none, errW_some] <;> rfl), by repeat (first | (with_reducible first | exact HB.out | apply below_alloc | apply pw_below_drewN | apply below_drew1 | refine below_set ?_ GE268.out) | exact HB.out)⟩
                                          · rw [if_neg c49] at H
                                            have c49b0 : (((rd_T32 t272 x13_6).f0) == x13_6) = false := beq_eq_false_iff_ne.mpr c49
                                            have c49b1 : (((rd_T32 t272 x13_6).f0) != x13_6) = true := bne_iff_ne.mpr c49
                                            obtain rfl := Option.some.inj H
                                            obtain ⟨Ao53, co53, eo53⟩ := Kd.R_slice HO_10.out
                                            subst eo53
                                            have p281 : 0 ≤ (x13_6 : Int) := of_decide_eq_true (by first | (with_reducible assumption) | assumption)
                                            have q281 : x13_6 < (t272.length : Int) := of_decide_eq_true (by first | (with_reducible assumption) | assumption)
                                            obtain ⟨ad281, e281, hx281_0, hx281_1⟩ := at_T32 (Kd.R_reads' HO_10.out).2.2 x13_6 p281 q281
                                            cases e281
                                            replace p281 := eq_true p281
                                            replace q281 := eq_true q281
                                            go_wp2
                                            go_ret
                                            exact ⟨by first | rfl | (simp [errW_none, errW_some] <;> rfl) | (simp [*, errW_none, errW_some] <;> rfl), by repeat (first | (with_reducible first | exact HB.out | apply below_alloc | apply pw_below_drewN | apply below_drew1 | refine below_set ?_ GE268.out) | exact HB.out)⟩
                                        · rw [if_neg c48] at H
                                          exact absurd H (by simp)
                                      · rw [if_neg c47] at H
                                        exact absurd H (by simp)
                                  · rw [if_neg c38] at H
                                    have c38b0 : decide (x13_6 < a0) = false := decide_eq_false c38
                                    clear c38
                                    replace H := Option.bind_eq_some_iff.mp H
                                    obtain ⟨t283, A540, H⟩ := H
                                    replace H : (some t283) = some r := H
                                    have A54 := Aside0.mk A540
                                    clear A540
                                    obtain rfl := Option.some.inj H
                                    go_wp2_with (first | ((with_reducible refine gate_callee (f := 12) rfl ?_); refine goesL_ (some 115) rfl rfl Try.func12 (by kernel_rfl) rfl #[] rfl (by (try simp only [List.map_toArray, List.map_cons, List.map_nil]); first | done | rfl | (simp only [List.length_drop, List.length_take]; rfl)) ?_; (with_reducible refine (changelinglaw05_known.calls k6  t283 _ A54.out).mono ?_); rintro e w55 ⟨rfl, hb⟩; refine ⟨_, rfl, ?_⟩; have n0_ := Aside0.mk (Kd.R_below (by (with_reducible repeat (first | apply Kd.R_alloc | apply Kd.R_drewN | apply Kd.R_drew)); exact HO_10.out) hb); have n1_ := Aside0.mk (blk_below (g := gb268) (o := .cells #[.string (⟨#[]⟩ : ByteArray), .int .i64 x269001_8, .int .i64 a1, .int .i64 0, .int .i64 0] 36 (0, 0)) (by (with_reducible repeat (first | refine blk_drewN ?_ _ | refine blk_drew ?_ | refine blk_alloc ?_ _)); exact BK268.out) hb); have n2_ := Aside0.mk (below_step (by repeat (first | (with_reducible first | exact HB.out | apply below_alloc | apply pw_below_drewN | apply below_drew1 | refine below_set ?_ GE268.out) | exact HB.out)) hb); clear HO_10; clear BK268; clear HB; have HO_10 := n0_; have BK268 := n1_; have HB := n2_; clear n0_ n1_ n2_; (try clear hb); (try clear hb2); (try clear hk); (try clear hi)))
                                    go_ret
                                    exact ⟨by first | rfl | (simp [errW_none, errW_some] <;> rfl) | (simp [*, errW_none, errW_some] <;> rfl), by repeat (first | (with_reducible first | exact HB.out | apply below_alloc | apply pw_below_drewN | apply below_drew1 | refine below_set ?_ GE268.out) | exact HB.out)⟩

/-- THE ONE PURE STATEMENT of changelinglaw05_FixSides: yours. -/
def changelinglaw05_FixSides.Pure : Prop := ∀ (a0 : Int) (a1 : Int) (a2 : Bool), (Lit.int .i64 a0).wf = true → (Lit.int .i64 a1).wf = true → ∃ k, changelinglaw05_FixSides.f k a0 a1 a2 = some true
theorem changelinglaw05_FixSides.walk (P : changelinglaw05_FixSides.Pure) (a0 : Int) (a1 : Int) (a2 : Bool) (w : World) (w0 : (Lit.int .i64 a0).wf = true) (w1 : (Lit.int .i64 a1).wf = true) :
    Calls Try.prog 6 #[.int .i64 a0, .int .i64 a1, .bool a2] w fun e w' => e = .returned (.bool true) ∧ Below w.heap.size w w' := by
  obtain ⟨k, h⟩ := P a0 a1 a2 w0 w1
  refine (changelinglaw05_FixSides.calls k a0 a1 a2 true w h).mono ?_
  rintro e w' ⟨rfl, hd⟩
  exact ⟨rfl, hd⟩

end Go.Proofs.Ytmiepbnjocojhaa.QN
