/- stat.Count: mutants and verdicts counted, row by row. -/
import Derived.Test.YtcmknnhhbcgoiaaKnd
import Derived.Test.YtcmknnhhbcgoiaaQN1
import Derived.Deep.DeepMust
import Derived.Outline
namespace Go.Proofs.Ytcmknnhhbcgoiaa.QN
open Go.RowKit Go.Proofs.YtcmknnhhbcgoiaaW.PrintWords Go.Proofs.YtcmknnhhbcgoiaaW.PrintLast Go.Proofs.YtcmknnhhbcgoiaaW.PrintMore
set_option linter.unusedVariables false
set_option linter.unusedSimpArgs false

def tab_f10.T7 : Bool × List (List Nat × List Nat) := (true, [([], []), ([0], [0]), ([], []), ([], []), ([2, 3], [2, 3]), ([4], [4]), ([5], [5]), ([1, 6], [1, 6]), ([7], [7]), ([8], [8]), ([8], [8]), ([], []), ([11, 9, 7, 0, 1, 2, 3, 4, 5, 6, 7, 8, 9, 11], [9, 11]), ([10, 12, 0, 1, 2, 3, 4, 5, 6, 7, 8, 9, 10, 11, 12], [10])])
def tab_f10.B7 : List Nat := [0, 1, 0, 0, 12, 28, 60, 127, 255, 511, 511, 0, 3071, 8191]
theorem tab_f10.tab7 : rtab .any (opsOf Try.f10 7) = tab_f10.T7 := by kernel_rfl
theorem tab_f10.bits7 : waitsOk tab_f10.T7.2 tab_f10.B7 = true := by kernel_rfl
def tab_f10.T11 : Bool × List (List Nat × List Nat) := (true, [([], []), ([], []), ([], []), ([2], [2]), ([3], [3]), ([1, 4], [1, 4]), ([0, 0, 1, 2, 3, 4, 5], [0]), ([6, 5, 5, 0, 1, 2, 3, 4, 5], [5, 6])])
def tab_f10.B11 : List Nat := [0, 0, 0, 4, 12, 30, 63, 127]
theorem tab_f10.tab11 : rtab .any (opsOf Try.f10 11) = tab_f10.T11 := by kernel_rfl
theorem tab_f10.bits11 : waitsOk tab_f10.T11.2 tab_f10.B11 = true := by kernel_rfl
theorem one_ok (op kind : Int) (h : okOne op kind = true) : stat_one.f op kind = some ((oneR op kind).f0, (oneR op kind).f1, (oneR op kind).f2, (oneR op kind).f3, (oneR op kind).f4, true) := by
 obtain ⟨h1, h2, h3, h4⟩ := of_decide_eq_true h
 have hk : kind = 1 ∨ kind = 2 ∨ kind = 3 ∨ kind = 4 := by omega
 have ho : decide (op ≤ 14) = true := decide_eq_true h4
 rcases hk with rfl | rfl | rfl | rfl <;> simp [stat_one.f, oneR, ho] <;> omega
theorem one_bad (op kind : Int) (h : okOne op kind = false) : ∃ r1 r2 r3 r4 r5, stat_one.f op kind = some (r1, r2, r3, r4, r5, false) := by
 have h0 := of_decide_eq_false h
 unfold stat_one.f
 by_cases c1 : kind = 1
 ·subst c1
  by_cases ho : op ≥ 1
  ·have : decide (op ≤ 14) = false := decide_eq_false (by omega)
   simp [ho, this]
  ·simp [ho]
 by_cases c2 : kind = 2
 ·subst c2
  by_cases ho : op ≥ 1
  ·have : decide (op ≤ 14) = false := decide_eq_false (by omega)
   simp [ho, this]
  ·simp [ho]
 by_cases c3 : kind = 3
 ·subst c3
  by_cases ho : op ≥ 1
  ·have : decide (op ≤ 14) = false := decide_eq_false (by omega)
   simp [ho, this]
  ·simp [ho]
 by_cases c4 : kind = 4
 ·subst c4
  by_cases ho : op ≥ 1
  ·have : decide (op ≤ 14) = false := decide_eq_false (by omega)
   simp [ho, this]
  ·simp [ho]
 simp [c1, c2, c3, c4]
theorem cell_up {w : World} {o : Obj} {a : Addr} {v : Value} (h : w.cell? a = some v) : (w.alloc o).cell? a = some v := (World.cell?_alloc_lt _ _ _ (World.block_lt_of_cell? _ _ h)).trans h
theorem far5 {W : World} {g g' : Nat} {t : TypeId} {cs : Array Value} (h : W.heap[g]? = some (.cells cs t (0, 0))) (hne : g ≠ g') (o : Nat) (a b c d e : Value) : (((((W.setCell ⟨g', o, none⟩ a).setCell ⟨g', o + 1, none⟩ b).setCell ⟨g', o + 2, none⟩ c).setCell ⟨g', o + 3, none⟩ d).setCell ⟨g', o + 4, none⟩ e).heap[g]? = some (.cells cs t (0, 0)) :=
 blk_far (blk_far (blk_far (blk_far (blk_far h hne a) hne b) hne c) hne d) hne e
theorem far5R {W : World} {g' base : Nat} {ok : Nat → Prop} {v : Value} {xs : List S42} (h : Kd.R k42 42 W base ok v xs) (hok : ∀ k, ok k → k ≠ g') (o : Nat) (a b c d e : Value) : Kd.R k42 42 (((((W.setCell ⟨g', o, none⟩ a).setCell ⟨g', o + 1, none⟩ b).setCell ⟨g', o + 2, none⟩ c).setCell ⟨g', o + 3, none⟩ d).setCell ⟨g', o + 4, none⟩ e) base ok v xs :=
 Kd.R_far (Kd.R_far (Kd.R_far (Kd.R_far (Kd.R_far h (p := ⟨g', o, none⟩) hok a) (p := ⟨g', o + 1, none⟩) hok b) (p := ⟨g', o + 2, none⟩) hok c) (p := ⟨g', o + 3, none⟩) hok d) (p := ⟨g', o + 4, none⟩) hok e
theorem below5o {B : Nat} {W0 W : World} {g : Nat} (h : Below B W0 W) (hg : B ≤ g) (o : Nat) (a b c d e : Value) : Below B W0 (((((W.setCell ⟨g, o, none⟩ a).setCell ⟨g, o + 1, none⟩ b).setCell ⟨g, o + 2, none⟩ c).setCell ⟨g, o + 3, none⟩ d).setCell ⟨g, o + 4, none⟩ e) := ((((h.setCell hg _).setCell hg _).setCell hg _).setCell hg _).setCell hg _
theorem far50 {W : World} {g g' : Nat} {t : TypeId} {cs : Array Value} (h : W.heap[g]? = some (.cells cs t (0, 0))) (hne : g ≠ g') (a b c d e : Value) : (((((W.setCell ⟨g', 0, none⟩ a).setCell ⟨g', 1, none⟩ b).setCell ⟨g', 2, none⟩ c).setCell ⟨g', 3, none⟩ d).setCell ⟨g', 4, none⟩ e).heap[g]? = some (.cells cs t (0, 0)) := far5 h hne 0 a b c d e
theorem far5R0 {W : World} {g' base : Nat} {ok : Nat → Prop} {v : Value} {xs : List S42} (h : Kd.R k42 42 W base ok v xs) (hok : ∀ k, ok k → k ≠ g') (a b c d e : Value) : Kd.R k42 42 (((((W.setCell ⟨g', 0, none⟩ a).setCell ⟨g', 1, none⟩ b).setCell ⟨g', 2, none⟩ c).setCell ⟨g', 3, none⟩ d).setCell ⟨g', 4, none⟩ e) base ok v xs := far5R h hok 0 a b c d e
/-- A row of a table of one's own: its cells, and the table with another row in its place. -/
theorem row5 {W : World} {base gA ca : Nat} {all : List S42} (h : Kd.R k42 42 W base (fun k => k = gA) (.slice (some ⟨gA, 0, none⟩) 15 ca) all) (o : Nat) (ho : o < 15) :
  (W.cell? ⟨gA, o * 5, none⟩ = some (.int .i64 (rd_T42 all (o : Int)).f0) ∧ W.cell? ⟨gA, o * 5 + 1, none⟩ = some (.int .i64 (rd_T42 all (o : Int)).f1) ∧ W.cell? ⟨gA, o * 5 + 2, none⟩ = some (.int .i64 (rd_T42 all (o : Int)).f2) ∧ W.cell? ⟨gA, o * 5 + 3, none⟩ = some (.int .i64 (rd_T42 all (o : Int)).f3) ∧ W.cell? ⟨gA, o * 5 + 4, none⟩ = some (.int .i64 (rd_T42 all (o : Int)).f4)) ∧
  (∀ j, W.frozen? ⟨gA, o * 5 + j, none⟩ = false) ∧
  ∀ x : S42, Kd.R k42 42 (((((W.setCell ⟨gA, o * 5, none⟩ (.int .i64 x.f0)).setCell ⟨gA, o * 5 + 1, none⟩ (.int .i64 x.f1)).setCell ⟨gA, o * 5 + 2, none⟩ (.int .i64 x.f2)).setCell ⟨gA, o * 5 + 3, none⟩ (.int .i64 x.f3)).setCell ⟨gA, o * 5 + 4, none⟩ (.int .i64 x.f4)) base (fun k => k = gA) (.slice (some ⟨gA, 0, none⟩) 15 ca) (all.set o x) := by
 obtain ⟨c, hcl, hM, hcc, hf⟩ := Kd.R_elem h z42 (o : Int) (by omega) (by omega)
 have hc := k42_openM hM
 have hs : k42.sz = 5 := rfl
 rw [hs] at hcc hf
 simp only [Int.toNat_natCast] at hc hcc hf
 have hcc2 := hcc
 rw [hc] at hcc2
 refine ⟨⟨hcc2 0 _ rfl, hcc2 1 _ rfl, hcc2 2 _ rfl, hcc2 3 _ rfl, hcc2 4 _ rfl⟩, hf, fun x => ?_⟩
 have h6 := (Kd.R_seg h (o : Int) (by omega) (by omega) (c := c) (seg := [.int .i64 x.f0, .int .i64 x.f1, .int .i64 x.f2, .int .i64 x.f3, .int .i64 x.f4]) (j := 0) hcl (by simpa only [Int.toNat_natCast, hs] using hcc) (by simp [hs]) (x' := x) (okp := fun _ => False) (by
  rw [hc]
  exact k42_mkM _ _ _ x) (fun _ hk => hk.elim)).1
 simp only [Int.toNat_natCast, hs] at h6
 exact h6
set_option maxHeartbeats 8000000 in
set_option maxRecDepth 100000 in
theorem Count_calls (A0 : Option Addr) (c0 : Nat) (l : List S67) (A1 : Option Addr) (c1 : Nat) (v : List SV) (R : Option (List S42)) (w : World) (hC : Kd.C k67 w A0 l.length l) (hc : l.length ≤ c0) (hV : Kd.C kV w A1 v.length v) (hc1 : v.length ≤ c1) (hlv : l.length = v.length)
  (hR : cnt 0 (List.replicate 15 z42) l v = R) :
  Calls Try.prog 10 #[.slice A0 l.length c0, .slice A1 v.length c1] w fun e w' => (R = none → e = .returned (.tuple #[.slice none 0 0, .int .i64 1])) ∧ (∀ t, R = some t → ∃ V, e = .returned (.tuple #[V, .int .i64 0]) ∧ Kd.R k42 42 w' w.heap.size (fun _ => True) V (keepR t)) ∧ Below w.heap.size w w' := by
 have hmx := Kd.C_max hC
 have HC := Aside0.mk (And.intro hC hc)
 have HV := Aside0.mk (And.intro hV hc1)
 have HLV := Aside0.mk hlv
 have HMX := Aside0.mk hmx
 have HR := Aside0.mk hR
 rw [← hlv]
 clear hC hc hV hc1 hlv hR hmx
 go_enter Try.func10, Try.ntmps10
 go_upto_block 0 with ((with_reducible refine gate_dst (N := 20) rfl ?_); go_must (refine Kd.R_make k42 (w0 := w) (W := w) w.heap.size 42 rfl (N := 20) rfl 25 _ _ rfl (15 : Int) rfl rfl Try.underlying25 (.agg #[(.int .i64 0), (.int .i64 0), (.int .i64 0), (.int .i64 0), (.int .i64 0)]) 40 info42 rfl (by decide) (by decide) z42 (ok := fun _ => True) (okp := fun _ => True) (k42_mkM _ _ _ z42) (fun _ hk => hk) trivial (by decide) (by decide) (Below.refl _ _) (Nat.le_refl _) ?_; intro va w1 hRa hba hga hxa; obtain ⟨gA, ca, rfl, hgb, hgl, -⟩ := Kd.R_form hRa (by decide); have HA : Aside0 (Kd.R k42 42 w1 w.heap.size (fun k => k = gA) (.slice (some ⟨gA, 0, none⟩) 15 ca) (List.replicate 15 z42)) := ⟨Kd.R_reok rfl hRa (fun k hk => by simp [Value.ownBlock] at hk; exact hk.symm)⟩; have HB := Aside0.mk hba; have HGA := Aside0.mk (And.intro hgb hgl); clear hRa hba hga hxa hgb hgl))
 have HGB : Aside0 (w.heap.size ≤ gA) := ⟨HGA.out.1⟩
 clear HGA
 go_cut [23] (fun v23 wc => ∃ t, Aside0 (R = some t) ∧ Aside0 (Kd.R k42 42 wc w.heap.size (fun k => k = gA) (.slice (some ⟨gA, 0, none⟩) 15 ca) t) ∧ Aside0 (Below w.heap.size w wc))
 case first =>
  go_wp2
  go_loopg [23] l.length (fun kq v23 w' => ∃ (m : Nat) (all : List S42), v23 = .int .i64 (m : Int) ∧ Aside0 (m + kq = l.length) ∧ Aside0 (cnt m all (l.drop m) (v.drop m) = R) ∧ Aside0 (Kd.R k42 42 w' w.heap.size (fun k => k = gA) (.slice (some ⟨gA, 0, none⟩) 15 ca) all) ∧ Aside0 (Below w.heap.size w w'))
  case atStart => exact ⟨0, _, rfl, ⟨by omega⟩, ⟨by simpa using HR.out⟩, HA, HB⟩
  case round =>
   clear HA HB HR
   obtain ⟨m, all, rfl, HI, HR, HA, HB⟩ := hrel
   cases gk with
   | zero =>
    obtain rfl : m = l.length := by have := HI.out; omega
    have HT : Aside0 (R = some all) := ⟨by have h := HR.out; rw [List.drop_eq_nil_of_le (Nat.le_refl _)] at h; simpa [cnt] using h.symm⟩
    go_wp2
    go_meet
    case rel => exact ⟨all, HT, HA, HB⟩
   | succ kq =>
    have HM : Aside0 (m < l.length) := ⟨by have := HI.out; omega⟩
    have c1b : decide ((m : Int) < (l.length : Int)) = true := decide_eq_true (by have := HM.out; omega); have c1i : ((m : Int) < (l.length : Int)) = True := eq_true (by have := HM.out; omega); have c1n : (m < l.length) = True := eq_true HM.out
    have p0 : (0 ≤ (m : Int)) = True := eq_true (by omega)
    have hw1 : wrap64 ((m : Int) + 1) = (m : Int) + 1 := by have := HM.out; have := HMX.out; unfold wrap64; omega
    obtain ⟨ad, ea, hx0, hx1, hx2, hx3, hx4⟩ := at_T67 (Kd.C_below HC.out.1 HB.out) (m : Int) (by omega) (by have := HM.out; omega)
    subst ea
    obtain ⟨av, ev, hy0, hy1, -⟩ := at_TV (Kd.C_below HV.out.1 HB.out) (m : Int) (by omega) (by have := HM.out; have := HLV.out; omega)
    subst ev
    replace HR : Aside0 (cnt m all (rd_T67 l (m : Int) :: l.drop (m + 1)) (rd_TV v (m : Int) :: v.drop (m + 1)) = R) := ⟨by rw [← drop_T67 l m HM.out, ← drop_TV v m (by have := HM.out; have := HLV.out; omega)]; exact HR.out⟩
    simp only [Int.toNat_natCast, slV] at hx0 hx1 hx2 hx3 hx4 hy0 hy1
    generalize rd_T67 l (m : Int) = x at hx0 hx1 hx2 hx3 hx4 HR
    generalize hyE : rd_TV v (m : Int) = y at hy0 hy1 HR
    obtain ⟨x0, op, ⟨B2, n2, d2⟩, ⟨B3, n3, d3⟩, ⟨B4, n4, d4⟩⟩ := x
    obtain ⟨sel, kind, y2, y3, y4, y5, y6, y7⟩ := y
    have HY : Aside0 ((rd_TV v (m : Int)).f0 = sel) := ⟨by rw [hyE]⟩
    clear hyE
    dsimp only at hx0 hx1 hx2 hx3 hx4 hy0 hy1
    go_upto_region 7 with (fail)
    have HGM : Aside0 ((wr.alloc (.cells #[.int .i64 x0, .int .i64 op, .slice B2 n2 d2, .slice B3 n3 d3, .slice B4 n4 d4] 67)).heap[wr.heap.size]? = some (.cells #[.int .i64 x0, .int .i64 op, .slice B2 n2 d2, .slice B3 n3 d3, .slice B4 n4 d4] 67 (0, 0))) := ⟨blk_new wr _⟩
    have HGL : Aside0 (w.heap.size ≤ wr.heap.size ∧ gA < wr.heap.size) := ⟨⟨HB.out.size, Kd.R_lt HA.out gA rfl⟩⟩
    have hb1 := below_alloc (Below.refl wr.heap.size wr) (.cells #[.int .i64 x0, .int .i64 op, .slice B2 n2 d2, .slice B3 n3 d3, .slice B4 n4 d4] 67)
    replace HA := Aside0.mk (Kd.R_below HA.out hb1)
    replace HB := Aside0.mk (below_then HB.out HB.out.size hb1)
    replace hy0 := pw_cell_below hb1 hy0
    replace hy1 := pw_cell_below hb1 hy1
    clear hb1 hx0 hx1 hx2 hx3 hx4
    generalize wr.alloc (.cells #[.int .i64 x0, .int .i64 op, .slice B2 n2 d2, .slice B3 n3 d3, .slice B4 n4 d4] 67) = w3 at HGM HA HB hy0 hy1 ⊢
    generalize wr.heap.size = g at HGM HGL ⊢
    have a1 : w3.cell? ⟨g, 1, none⟩ = some (.int .i64 op) := (blk_cell HGM.out 1).trans rfl
    have hbd : Below w3.heap.size w3 w3.drew := below_drew (Below.refl _ _)
    replace HA := Aside0.mk (Kd.R_below HA.out hbd)
    replace HB := Aside0.mk (below_then HB.out HB.out.size hbd)
    replace HGM := Aside0.mk (blk_below HGM.out hbd)
    obtain ⟨r1, r2, r3, r4, r5, b, hone⟩ : ∃ r1 r2 r3 r4 r5 b, stat_one.f op kind = some (r1, r2, r3, r4, r5, b) ∧ b = okOne op kind ∧ (b = true → (⟨r1, r2, r3, r4, r5⟩ : S42) = oneR op kind) := by
     cases hk : okOne op kind with
     | true => exact ⟨_, _, _, _, _, _, one_ok op kind hk, rfl, fun _ => rfl⟩
     | false =>
      obtain ⟨r1, r2, r3, r4, r5, h⟩ := one_bad op kind hk
      exact ⟨r1, r2, r3, r4, r5, false, h, rfl, fun h => by cases h⟩
    have HONE := Aside0.mk hone
    clear hone hbd hy0
    refine start_ (n := 14) (S := fun w' => w'.cell? ⟨g, 1, none⟩ = some (.int .i64 op) ∧ w'.cell? ⟨(av.add (m * 8)).block, (av.add (m * 8)).off + 1, none⟩ = some (.int .i64 kind)) (ds := [12]) #[false, false, false, false, false, false, false, false, false, false, false, false, false, false] (by kernel_rfl) rfl rfl ⟨a1, hy1⟩ (fun hHeld => ?_); refine with_tabW tab_f10.tab7 tab_f10.bits7 (fun HT_ HW_ => ?_)
    generalize w3.drew = w2 at HA HB HGM hHeld ⊢
    refine pure_ (i := 0) (N := some 29) (v := ?_) (a' := ?_) #[true, false, false, false, false, false, false, false, false, false, false, false, false, false] rfl rfl (any_of HT_.out (by kernel_rfl)) (fun _ _ _ h => h) (Or.inl ⟨by rfl, ?_⟩) ?_ ?_
    rotate_left
    ·intro w'
     go_simp
     with_reducible rfl
    rotate_left
    ·simp only [Act.put, List.setIfInBounds_toArray, List.set_cons_zero, List.set_cons_succ, i64_w, i32_w]
     rfl
    refine pure_ (i := 2) (N := some 31) (v := ?_) (a' := ?_) #[true, false, true, false, false, false, false, false, false, false, false, false, false, false] rfl rfl (any_of HT_.out (by kernel_rfl)) (fun _ _ _ h => h) (Or.inl ⟨by rfl, ?_⟩) ?_ ?_
    rotate_left
    ·intro w'
     go_simp
     with_reducible rfl
    rotate_left
    ·simp only [Act.put, List.setIfInBounds_toArray, List.set_cons_zero, List.set_cons_succ, i64_w, i32_w]
     rfl
    refine pure_ (i := 3) (N := some 32) (v := ?_) (a' := ?_) #[true, false, true, true, false, false, false, false, false, false, false, false, false, false] rfl rfl (any_of HT_.out (by kernel_rfl)) (fun _ _ _ h => h) (Or.inl ⟨by rfl, ?_⟩) ?_ ?_
    rotate_left
    ·intro w'
     go_simp
     with_reducible rfl
    rotate_left
    ·simp only [Act.put, List.setIfInBounds_toArray, List.set_cons_zero, List.set_cons_succ, i64_w, i32_w]
     rfl
    refine pure_ (i := 4) (N := some 33) (v := ?_) (a' := ?_) #[true, false, true, true, true, false, false, false, false, false, false, false, false, false] rfl rfl (any_of HT_.out (by kernel_rfl)) (fun _ _ _ h => h) (Or.inl ⟨by rfl, ?_⟩) ?_ ?_
    rotate_left
    ·intro w'
     go_simp
     with_reducible rfl
    rotate_left
    ·simp only [Act.put, List.setIfInBounds_toArray, List.set_cons_zero, List.set_cons_succ, i64_w, i32_w]
     rfl
    refine pure_ (i := 5) (N := some 34) (v := ?_) (a' := ?_) #[true, false, true, true, true, true, false, false, false, false, false, false, false, false] rfl rfl (any_of HT_.out (by kernel_rfl)) (fun _ _ _ h => h) (Or.inl ⟨by rfl, ?_⟩) ?_ ?_
    rotate_left
    ·intro w'
     go_simp
     with_reducible rfl
    rotate_left
    ·simp only [Act.put, List.setIfInBounds_toArray, List.set_cons_zero, List.set_cons_succ, i64_w, i32_w]
     rfl
    refine take_ (i := 1) (N := some 30) (v := ?_) (a' := ?_) #[true, true, true, true, true, true, false, false, false, false, false, false, false, false] rfl rfl (take_ofW HT_.out HW_.out (by kernel_rfl)) (fun _ _ _ h => h) (Or.inl ⟨by rfl, ?_⟩) hHeld ?_ ?_
    rotate_left
    ·rintro w' ⟨s0, s1⟩
     go_simp
     with_reducible rfl
    rotate_left
    ·simp only [Act.put, List.setIfInBounds_toArray, List.set_cons_zero, List.set_cons_succ, i64_w, i32_w]
     rfl
    refine take_ (i := 6) (N := some 35) (v := ?_) (a' := ?_) #[true, true, true, true, true, true, true, false, false, false, false, false, false, false] rfl rfl (take_ofW HT_.out HW_.out (by kernel_rfl)) (fun _ _ _ h => h) (Or.inl ⟨by rfl, ?_⟩) hHeld ?_ ?_
    rotate_left
    ·rintro w' ⟨s0, s1⟩
     go_simp
     with_reducible rfl
    rotate_left
    ·simp only [Act.put, List.setIfInBounds_toArray, List.set_cons_zero, List.set_cons_succ, i64_w, i32_w]
     rfl
    refine join_ (σ := Nat) 2 #[true, true, true, true, true, true, true, true, true, true, true, true, false, false] (fun s => [(36, .tuple #[.agg #[.int .i64 r1, .int .i64 r2, .int .i64 r3, .int .i64 r4, .int .i64 r5], .bool b]), (28, .tuple #[.agg #[.int .i64 r1, .int .i64 r2, .int .i64 r3, .int .i64 r4, .int .i64 r5], .bool b]), (37, .agg #[.int .i64 r1, .int .i64 r2, .int .i64 r3, .int .i64 r4, .int .i64 r5]), (38, .bool b), (9, .pointer (some ⟨s, 0, none⟩))]) (fun s w' => w'.heap[s]? = some (.cells #[.int .i64 0, .int .i64 0, .int .i64 0, .int .i64 0, .int .i64 0] 42 (0, 0)) ∧ Below w2.heap.size w2 w' ∧ w2.heap.size ≤ s) ?_ ?_
    rotate_left
    ·intro hCont
     refine two_ (i := 7) (j := 11) (Ni := some 36) (Nj := some 9) #[true, true, true, true, true, true, true, true, false, false, false, false, false, false] #[true, true, true, true, true, true, true, false, false, false, false, true, false, false] rfl rfl rfl rfl (two_of HT_.out (by kernel_rfl)) (by decide) (by decide) (fun K hK => ?_) (fun K hK => ?_)
     ·skip
      refine goes_ Try.func27 (by kernel_rfl) rfl #[.int .i64 op, .int .i64 kind] (by rfl) rfl rfl (by simp only [List.map_toArray, List.map_cons, List.map_nil]; rfl) ?_
      with_reducible refine (stat_one.calls op kind r1 r2 r3 r4 r5 b _ HONE.out.1).mono ?_
      rintro e w4 ⟨rfl, hb4⟩
      refine ⟨_, rfl, ?_⟩
      refine hK.out _ _ ⟨(pw_cell_below hb4 hHeld.1), (pw_cell_below hb4 hHeld.2)⟩ (fun hHeld => ?_)
      clear hK K
      refine norm_ (a' := ?_) ?_ ?_
      rotate_left
      ·show Act.put _ (some 36) _ = _
       simp only [Act.put, List.setIfInBounds_toArray, List.set_cons_zero, List.set_cons_succ, i64_w, i32_w]
       rfl
      refine pure_ (i := 8) (N := some 28) (v := ?_) (a' := ?_) #[true, true, true, true, true, true, true, true, true, false, false, false, false, false] rfl rfl (any_of HT_.out (by kernel_rfl)) (fun _ _ _ h => h) (Or.inl ⟨by rfl, ?_⟩) ?_ ?_
      rotate_left
      ·intro w'
       go_simp
       with_reducible rfl
      rotate_left
      ·simp only [Act.put, List.setIfInBounds_toArray, List.set_cons_zero, List.set_cons_succ, i64_w, i32_w]
       rfl
      refine pure_ (i := 9) (N := some 37) (v := ?_) (a' := ?_) #[true, true, true, true, true, true, true, true, true, true, false, false, false, false] rfl rfl (any_of HT_.out (by kernel_rfl)) (fun _ _ _ h => h) (Or.inl ⟨by rfl, ?_⟩) ?_ ?_
      rotate_left
      ·intro w'
       go_simp
       with_reducible rfl
      rotate_left
      ·simp only [Act.put, List.setIfInBounds_toArray, List.set_cons_zero, List.set_cons_succ, i64_w, i32_w]
       rfl
      refine pure_ (i := 10) (N := some 38) (v := ?_) (a' := ?_) #[true, true, true, true, true, true, true, true, true, true, true, false, false, false] rfl rfl (any_of HT_.out (by kernel_rfl)) (fun _ _ _ h => h) (Or.inl ⟨by rfl, ?_⟩) ?_ ?_
      rotate_left
      ·intro w'
       go_simp
       with_reducible rfl
      rotate_left
      ·simp only [Act.put, List.setIfInBounds_toArray, List.set_cons_zero, List.set_cons_succ, i64_w, i32_w]
       rfl
      refine one_ (i := 11) (N := some 9) #[true, true, true, true, true, true, true, true, true, true, true, true, false, false] rfl rfl (one_of HT_.out (by kernel_rfl)) (by decide) (fun K hK => ?_)
      refine value_ (w1 := ?_) (v := ?_) (by rfl) rfl ?_ ?_
      rotate_left 2
      ·go_simp
       constructor
       ·rfl
       ·rfl
      refine hK.out _ _ ⟨(cell_up hHeld.1), (cell_up hHeld.2)⟩ (fun hHeld => ?_)
      clear hK K
      refine norm_ (a' := ?_) ?_ ?_
      rotate_left
      ·show Act.put _ (some 9) _ = _
       simp only [Act.put, List.setIfInBounds_toArray, List.set_cons_zero, List.set_cons_succ, i64_w, i32_w]
       rfl
      exact norm_ (by simp only [putAll, Act.put, List.setIfInBounds_toArray, List.set_cons_zero, List.set_cons_succ]) (hCont w4.heap.size _ ⟨blk_new w4 _, below_alloc hb4 _, hb4.size⟩)
     ·skip
      refine value_ (w1 := ?_) (v := ?_) (by rfl) rfl ?_ ?_
      rotate_left 2
      ·go_simp
       constructor
       ·rfl
       ·rfl
      have hz3 := blk_new w2 (.cells #[.int .i64 0, .int .i64 0, .int .i64 0, .int .i64 0, .int .i64 0] 42)
      have hb3 : Below w2.heap.size w2 (w2.alloc (.cells #[.int .i64 0, .int .i64 0, .int .i64 0, .int .i64 0, .int .i64 0] 42)) := below_alloc (Below.refl _ _) _
      refine hK.out _ _ ⟨(cell_up hHeld.1), (cell_up hHeld.2)⟩ (fun hHeld => ?_)
      clear hK K
      refine norm_ (a' := ?_) ?_ ?_
      rotate_left
      ·show Act.put _ (some 9) _ = _
       simp only [Act.put, List.setIfInBounds_toArray, List.set_cons_zero, List.set_cons_succ, i64_w, i32_w]
       rfl
      refine one_ (i := 7) (N := some 36) #[true, true, true, true, true, true, true, true, false, false, false, true, false, false] rfl rfl (one_of HT_.out (by kernel_rfl)) (by decide) (fun K hK => ?_)
      refine goes_ Try.func27 (by kernel_rfl) rfl #[.int .i64 op, .int .i64 kind] (by rfl) rfl rfl (by simp only [List.map_toArray, List.map_cons, List.map_nil]; rfl) ?_
      with_reducible refine (stat_one.calls op kind r1 r2 r3 r4 r5 b _ HONE.out.1).mono ?_
      rintro e w4 ⟨rfl, hb4⟩
      refine ⟨_, rfl, ?_⟩
      refine hK.out _ _ ⟨(pw_cell_below hb4 hHeld.1), (pw_cell_below hb4 hHeld.2)⟩ (fun hHeld => ?_)
      clear hK K
      refine norm_ (a' := ?_) ?_ ?_
      rotate_left
      ·show Act.put _ (some 36) _ = _
       simp only [Act.put, List.setIfInBounds_toArray, List.set_cons_zero, List.set_cons_succ, i64_w, i32_w]
       rfl
      refine pure_ (i := 8) (N := some 28) (v := ?_) (a' := ?_) #[true, true, true, true, true, true, true, true, true, false, false, true, false, false] rfl rfl (any_of HT_.out (by kernel_rfl)) (fun _ _ _ h => h) (Or.inl ⟨by rfl, ?_⟩) ?_ ?_
      rotate_left
      ·intro w'
       go_simp
       with_reducible rfl
      rotate_left
      ·simp only [Act.put, List.setIfInBounds_toArray, List.set_cons_zero, List.set_cons_succ, i64_w, i32_w]
       rfl
      refine pure_ (i := 9) (N := some 37) (v := ?_) (a' := ?_) #[true, true, true, true, true, true, true, true, true, true, false, true, false, false] rfl rfl (any_of HT_.out (by kernel_rfl)) (fun _ _ _ h => h) (Or.inl ⟨by rfl, ?_⟩) ?_ ?_
      rotate_left
      ·intro w'
       go_simp
       with_reducible rfl
      rotate_left
      ·simp only [Act.put, List.setIfInBounds_toArray, List.set_cons_zero, List.set_cons_succ, i64_w, i32_w]
       rfl
      refine pure_ (i := 10) (N := some 38) (v := ?_) (a' := ?_) #[true, true, true, true, true, true, true, true, true, true, true, true, false, false] rfl rfl (any_of HT_.out (by kernel_rfl)) (fun _ _ _ h => h) (Or.inl ⟨by rfl, ?_⟩) ?_ ?_
      rotate_left
      ·intro w'
       go_simp
       with_reducible rfl
      rotate_left
      ·simp only [Act.put, List.setIfInBounds_toArray, List.set_cons_zero, List.set_cons_succ, i64_w, i32_w]
       rfl
      exact norm_ (by simp only [putAll, Act.put, List.setIfInBounds_toArray, List.set_cons_zero, List.set_cons_succ]) (hCont w2.heap.size _ ⟨blk_below hz3 hb4, below_then hb3 hb3.size hb4, Nat.le_refl _⟩)
    rintro g9 w6 ⟨hz6, hb6, hs6⟩
    have hHeld := (show w6.cell? ⟨g, 1, none⟩ = some (.int .i64 op) ∧ w6.cell? ⟨(av.add (m * 8)).block, (av.add (m * 8)).off + 1, none⟩ = some (.int .i64 kind) from ⟨(pw_cell_below hb6 hHeld.1), (pw_cell_below hb6 hHeld.2)⟩)
    have z0 : w6.cell? ⟨g9, 0, none⟩ = some (.int .i64 0) := (blk_cell hz6 0).trans rfl
    have z1 : w6.cell? ⟨g9, 1, none⟩ = some (.int .i64 0) := (blk_cell hz6 1).trans rfl
    have z2 : w6.cell? ⟨g9, 2, none⟩ = some (.int .i64 0) := (blk_cell hz6 2).trans rfl
    have z3 : w6.cell? ⟨g9, 3, none⟩ = some (.int .i64 0) := (blk_cell hz6 3).trans rfl
    have z4 : w6.cell? ⟨g9, 4, none⟩ = some (.int .i64 0) := (blk_cell hz6 4).trans rfl
    have y0 : w6.frozen? ⟨g9, 0, none⟩ = false := blk_frozen hz6 0
    have y1 : w6.frozen? ⟨g9, 1, none⟩ = false := blk_frozen hz6 1
    have y2 : w6.frozen? ⟨g9, 2, none⟩ = false := blk_frozen hz6 2
    have y3 : w6.frozen? ⟨g9, 3, none⟩ = false := blk_frozen hz6 3
    have y4 : w6.frozen? ⟨g9, 4, none⟩ = false := blk_frozen hz6 4
    have HZ6 := Aside0.mk hz6
    have HB6 := Aside0.mk hb6
    have HS6 := Aside0.mk hs6
    clear hz6 hb6 hs6
    refine norm_ (a' := ?_) ?_ ?_
    rotate_left
    ·simp only [putAll, Act.put, List.setIfInBounds_toArray, List.set_cons_zero, List.set_cons_succ]
     rfl
    refine last_ (i := 12) (N := none) #[true, true, true, true, true, true, true, true, true, true, true, true, true, false] rfl rfl (one_of HT_.out (by kernel_rfl)) (by decide) (fun K hK => ?_)
    refine skip_ (w1 := ?_) (by rfl) rfl ?_ ?_
    rotate_left
    ·go_simp
     rfl
    refine hK.out _ _ ?_
    clear hK K
    refine pure_ (i := 13) (N := some 10) (v := ?_) (a' := ?_) #[true, true, true, true, true, true, true, true, true, true, true, true, true, true] rfl rfl (any_of HT_.out (by kernel_rfl)) (fun _ _ _ h => h) (Or.inl ⟨by rfl, ?_⟩) ?_ ?_
    rotate_left
    ·intro w'
     go_simp
     with_reducible rfl
    rotate_left
    ·simp only [Act.put, List.setIfInBounds_toArray, List.set_cons_zero, List.set_cons_succ, i64_w, i32_w]
     rfl
    refine done_ (done_of HT_.out (by kernel_rfl)) ?_
    have HGN : Aside0 (g ≠ g9 ∧ gA ≠ g9 ∧ w.heap.size ≤ g9) := ⟨by have h1 := blk_lt HGM.out; have h2 := HS6.out; have h3 := HGL.out; omega⟩
    have H9 := Aside0.mk (put5 (a' := .int .i64 r1) (b' := .int .i64 r2) (c' := .int .i64 r3) (d' := .int .i64 r4) (e' := .int .i64 r5) HZ6.out)
    replace HGM := Aside0.mk (far50 (blk_below HGM.out HB6.out) HGN.out.1 (.int .i64 r1) (.int .i64 r2) (.int .i64 r3) (.int .i64 r4) (.int .i64 r5))
    replace HA := Aside0.mk (far5R0 (g' := g9) (Kd.R_below HA.out HB6.out) (fun k hk => by rw [hk]; exact HGN.out.2.1) (.int .i64 r1) (.int .i64 r2) (.int .i64 r3) (.int .i64 r4) (.int .i64 r5))
    replace HB := Aside0.mk (below5 (g := g9) (a := .int .i64 r1) (b := .int .i64 r2) (c := .int .i64 r3) (d := .int .i64 r4) (e := .int .i64 r5) (below_then HB.out HB.out.size HB6.out) HGN.out.2.2)
    clear hHeld z0 z1 z2 z3 z4 y0 y1 y2 y3 y4 a1 hy1 HB6 HS6 HZ6
    generalize ((((w6.setCell ⟨g9, 0, none⟩ (.int .i64 r1)).setCell ⟨g9, 1, none⟩ (.int .i64 r2)).setCell ⟨g9, 2, none⟩ (.int .i64 r3)).setCell ⟨g9, 3, none⟩ (.int .i64 r4)).setCell ⟨g9, 4, none⟩ (.int .i64 r5) = w5 at HA HB HGM H9 ⊢
    have hy0 : w5.cell? (av.add (m * 8)) = some (.int .i64 sel) := by
     obtain ⟨av', ev, hy, -⟩ := at_TV (Kd.C_below HV.out.1 HB.out) (m : Int) (by omega) (by have := HM.out; have := HLV.out; omega)
     obtain rfl : av = av' := by injection ev
     rw [Int.toNat_natCast] at hy
     rw [hy, HY.out]
    have hz1 : w5.cell? ⟨g, 1, none⟩ = some (.int .i64 op) := (blk_cell HGM.out 1).trans rfl
    cases b with
    | false =>
     have HN : Aside0 (R = none) := ⟨by have h := HR.out; unfold cnt at h; rw [if_neg (by unfold cok; dsimp only; rw [← HONE.out.2.1]; simp)] at h; exact h.symm⟩
     go_wp2
     go_ret2
     refine ⟨fun _ => rfl, ?_, HB.out⟩
     intro t ht
     rw [HN.out] at ht
     cases ht
    | true =>
    by_cases hs : sel = (m : Int) + 1
    ·subst hs
     have hop := HONE.out.2.1
     have hop2 := of_decide_eq_true hop.symm
     obtain ⟨o, ho⟩ := Int.eq_ofNat_of_zero_le (show 0 ≤ op by omega)
     subst ho
     have HO : Aside0 (o < 15) := ⟨by omega⟩
     have HR2 : Aside0 (cnt (m + 1) (all.set o (addR ⟨r1, r2, r3, r4, r5⟩ (rd_T42 all (o : Int)))) (l.drop (m + 1)) (v.drop (m + 1)) = R) := ⟨by
      have h := HR.out
      unfold cnt at h
      rw [if_pos (by unfold cok; dsimp only; rw [← hop]; simp)] at h
      rw [HONE.out.2.2 rfl]
      simpa [stepR] using h⟩
     clear hop hop2 HR
     have q0 : (0 ≤ (o : Int)) = True := eq_true (by omega)
     have q1 : ((o : Int) < 15) = True := eq_true (by have := HO.out; omega)
     have q2 : (o < 15) = True := eq_true HO.out
     have q3 : decide ((o : Int) < 15) = true := decide_eq_true (by have := HO.out; omega)
     go_upto_region 11 with (fail)
     obtain ⟨⟨e0, e1, e2, e3, e4⟩, -, -⟩ := row5 HA.out o HO.out
     generalize hq : rd_T42 all (o : Int) = q at HR2 e0 e1 e2 e3 e4
     have HQ := Aside0.mk hq
     have b0 : w5.cell? ⟨g9, 0, none⟩ = some (.int .i64 r1) := (blk_cell H9.out 0).trans rfl
     have b1 : w5.cell? ⟨g9, 1, none⟩ = some (.int .i64 r2) := (blk_cell H9.out 1).trans rfl
     have b2 : w5.cell? ⟨g9, 2, none⟩ = some (.int .i64 r3) := (blk_cell H9.out 2).trans rfl
     have b3 : w5.cell? ⟨g9, 3, none⟩ = some (.int .i64 r4) := (blk_cell H9.out 3).trans rfl
     have b4 : w5.cell? ⟨g9, 4, none⟩ = some (.int .i64 r5) := (blk_cell H9.out 4).trans rfl
     have hbd : Below w5.heap.size w5 w5.drew := below_drew (Below.refl _ _)
     replace HA := Aside0.mk (Kd.R_below HA.out hbd)
     replace HB := Aside0.mk (below_then HB.out HB.out.size hbd)
     clear hbd hy0 hz1 H9 HGM
     refine start_ (n := 8) (S := fun w' => w'.cell? ⟨g9, 0, none⟩ = some (.int .i64 r1) ∧ w'.cell? ⟨g9, 1, none⟩ = some (.int .i64 r2) ∧ w'.cell? ⟨g9, 2, none⟩ = some (.int .i64 r3) ∧ w'.cell? ⟨g9, 3, none⟩ = some (.int .i64 r4) ∧ w'.cell? ⟨g9, 4, none⟩ = some (.int .i64 r5) ∧ w'.cell? ⟨gA, o * 5, none⟩ = some (.int .i64 q.f0) ∧ w'.cell? ⟨gA, o * 5 + 1, none⟩ = some (.int .i64 q.f1) ∧ w'.cell? ⟨gA, o * 5 + 2, none⟩ = some (.int .i64 q.f2) ∧ w'.cell? ⟨gA, o * 5 + 3, none⟩ = some (.int .i64 q.f3) ∧ w'.cell? ⟨gA, o * 5 + 4, none⟩ = some (.int .i64 q.f4)) (ds := [5, 7]) #[false, false, false, false, false, false, false, false] (by kernel_rfl) rfl rfl ⟨b0, b1, b2, b3, b4, e0, e1, e2, e3, e4⟩ (fun hHeld => ?_); refine with_tabW tab_f10.tab11 tab_f10.bits11 (fun HT_ HW_ => ?_)
     generalize w5.drew = w7 at HA HB hHeld ⊢
     refine pure_ (i := 0) (N := some 55) (v := ?_) (a' := ?_) #[true, false, false, false, false, false, false, false] rfl rfl (any_of HT_.out (by kernel_rfl)) (fun _ _ _ h => h) (Or.inl ⟨by rfl, ?_⟩) ?_ ?_
     rotate_left
     ·intro w'
      go_simp
      with_reducible rfl
     rotate_left
     ·simp only [Act.put, List.setIfInBounds_toArray, List.set_cons_zero, List.set_cons_succ, i64_w, i32_w]
      rfl
     refine pure_ (i := 2) (N := some 57) (v := ?_) (a' := ?_) #[true, false, true, false, false, false, false, false] rfl rfl (any_of HT_.out (by kernel_rfl)) (fun _ _ _ h => h) (Or.inl ⟨by rfl, ?_⟩) ?_ ?_
     rotate_left
     ·intro w'
      go_simp
      with_reducible rfl
     rotate_left
     ·simp only [Act.put, List.setIfInBounds_toArray, List.set_cons_zero, List.set_cons_succ, i64_w, i32_w]
      rfl
     refine pure_ (i := 3) (N := some 58) (v := ?_) (a' := ?_) #[true, false, true, true, false, false, false, false] rfl rfl (any_of HT_.out (by kernel_rfl)) (fun _ _ _ h => h) (Or.inl ⟨by rfl, ?_⟩) ?_ ?_
     rotate_left
     ·intro w'
      go_simp
      with_reducible rfl
     rotate_left
     ·simp only [Act.put, List.setIfInBounds_toArray, List.set_cons_zero, List.set_cons_succ, i64_w, i32_w]
      rfl
     refine take_ (i := 1) (N := some 56) (v := ?_) (a' := ?_) #[true, true, true, true, false, false, false, false] rfl rfl (take_ofW HT_.out HW_.out (by kernel_rfl)) (fun _ _ _ h => h) (Or.inl ⟨by rfl, ?_⟩) hHeld ?_ ?_
     rotate_left
     ·rintro w' ⟨s0, s1, s2, s3, s4, s5, s6, s7, s8, s9⟩
      go_simp
      with_reducible rfl
     rotate_left
     ·simp only [Act.put, List.setIfInBounds_toArray, List.set_cons_zero, List.set_cons_succ, i64_w, i32_w]
      rfl
     refine take_ (i := 4) (N := some 59) (v := ?_) (a' := ?_) #[true, true, true, true, true, false, false, false] rfl rfl (take_ofW HT_.out HW_.out (by kernel_rfl)) (fun _ _ _ h => h) (Or.inl ⟨by rfl, ?_⟩) hHeld ?_ ?_
     rotate_left
     ·rintro w' ⟨s0, s1, s2, s3, s4, s5, s6, s7, s8, s9⟩
      go_simp
      with_reducible rfl
     rotate_left
     ·simp only [Act.put, List.setIfInBounds_toArray, List.set_cons_zero, List.set_cons_succ, i64_w, i32_w]
      rfl
     refine last_ (i := 5) (N := some 60) #[true, true, true, true, true, true, false, false] rfl rfl (one_of HT_.out (by kernel_rfl)) (by decide) (fun K hK => ?_)
     refine goes_ Try.func28 (by kernel_rfl) rfl #[.agg #[.int .i64 r1, .int .i64 r2, .int .i64 r3, .int .i64 r4, .int .i64 r5], .agg #[.int .i64 q.f0, .int .i64 q.f1, .int .i64 q.f2, .int .i64 q.f3, .int .i64 q.f4]] (by rfl) rfl rfl (by simp only [List.map_toArray, List.map_cons, List.map_nil]; rfl) ?_
     with_reducible refine (stat_plus.calls r1 r2 r3 r4 r5 q.f0 q.f1 q.f2 q.f3 q.f4 _ _ _ _ _ _ rfl).mono ?_
     rintro e w8 ⟨rfl, hb8⟩
     refine ⟨_, rfl, ?_⟩
     have HA8 := Aside0.mk (Kd.R_below HA.out hb8)
     have HB8 := Aside0.mk (below_then HB.out HB.out.size hb8)
     obtain ⟨⟨g0, g1, g2, g3, g4⟩, hfz, hset⟩ := row5 HA8.out o HO.out
     rw [hq] at g0 g1 g2 g3 g4
     have y0 : w8.frozen? ⟨gA, o * 5, none⟩ = false := hfz 0
     have y1 : w8.frozen? ⟨gA, o * 5 + 1, none⟩ = false := hfz 1
     have y2 : w8.frozen? ⟨gA, o * 5 + 2, none⟩ = false := hfz 2
     have y3 : w8.frozen? ⟨gA, o * 5 + 3, none⟩ = false := hfz 3
     have y4 : w8.frozen? ⟨gA, o * 5 + 4, none⟩ = false := hfz 4
     have HSET := Aside0.mk (hset (addR ⟨r1, r2, r3, r4, r5⟩ q))
     clear hfz hset
     refine hK.out _ _ ?_
     clear hK K
     refine norm_ (a' := ?_) ?_ ?_
     rotate_left
     ·show Act.put _ (some 60) _ = _
      simp only [Act.put, List.setIfInBounds_toArray, List.set_cons_zero, List.set_cons_succ, i64_w, i32_w]
      rfl
     refine pure_ (i := 6) (N := some 61) (v := ?_) (a' := ?_) #[true, true, true, true, true, true, true, false] rfl rfl (any_of HT_.out (by kernel_rfl)) (fun _ _ _ h => h) (Or.inl ⟨by rfl, ?_⟩) ?_ ?_
     rotate_left
     ·intro w'
      go_simp
      with_reducible rfl
     rotate_left
     ·simp only [Act.put, List.setIfInBounds_toArray, List.set_cons_zero, List.set_cons_succ, i64_w, i32_w]
      rfl
     refine last_ (i := 7) (N := none) #[true, true, true, true, true, true, true, true] rfl rfl (one_of HT_.out (by kernel_rfl)) (by decide) (fun K hK => ?_)
     refine skip_ (w1 := ?_) (by rfl) rfl ?_ ?_
     rotate_left
     ·go_simp
      rfl
     refine hK.out _ _ ?_
     clear hK K
     refine done_ (done_of HT_.out (by kernel_rfl)) ?_
     have HA9 : Aside0 (Kd.R k42 42 (((((w8.setCell ⟨gA, o * 5, none⟩ (.int .i64 (r1))).setCell ⟨gA, o * 5 + 1, none⟩ (.int .i64 (wrap64 (r2 + q.f1)))).setCell ⟨gA, o * 5 + 2, none⟩ (.int .i64 (wrap64 (r3 + q.f2)))).setCell ⟨gA, o * 5 + 3, none⟩ (.int .i64 (wrap64 (r4 + q.f3)))).setCell ⟨gA, o * 5 + 4, none⟩ (.int .i64 (wrap64 (r5 + q.f4)))) w.heap.size (fun k => k = gA) (.slice (some ⟨gA, 0, none⟩) 15 ca) (all.set o (addR ⟨r1, r2, r3, r4, r5⟩ q))) := ⟨HSET.out⟩
     have HB9 : Aside0 (Below w.heap.size w (((((w8.setCell ⟨gA, o * 5, none⟩ (.int .i64 (r1))).setCell ⟨gA, o * 5 + 1, none⟩ (.int .i64 (wrap64 (r2 + q.f1)))).setCell ⟨gA, o * 5 + 2, none⟩ (.int .i64 (wrap64 (r3 + q.f2)))).setCell ⟨gA, o * 5 + 3, none⟩ (.int .i64 (wrap64 (r4 + q.f3)))).setCell ⟨gA, o * 5 + 4, none⟩ (.int .i64 (wrap64 (r5 + q.f4))))) := ⟨below5o HB8.out HGB.out (o * 5) _ _ _ _ _⟩
     clear HA HB HA8 HB8 HSET y0 y1 y2 y3 y4 g0 g1 g2 g3 g4
     generalize ((((w8.setCell ⟨gA, o * 5, none⟩ (.int .i64 (r1))).setCell ⟨gA, o * 5 + 1, none⟩ (.int .i64 (wrap64 (r2 + q.f1)))).setCell ⟨gA, o * 5 + 2, none⟩ (.int .i64 (wrap64 (r3 + q.f2)))).setCell ⟨gA, o * 5 + 3, none⟩ (.int .i64 (wrap64 (r4 + q.f3)))).setCell ⟨gA, o * 5 + 4, none⟩ (.int .i64 (wrap64 (r5 + q.f4))) = w9 at HA9 HB9 ⊢
     go_wp2
     go_roundg kq
     case measure => omega
     case rel => exact ⟨m + 1, _, by push_cast; rfl, ⟨by have := HI.out; omega⟩, HR2, HA9, HB9⟩
    ·have hs1 : (sel != ((m : Int) + 1)) = true := bne_iff_ne.mpr hs
     have hs2 : (sel == ((m : Int) + 1)) = false := beq_eq_false_iff_ne.mpr hs
     have HN : Aside0 (R = none) := ⟨by have h := HR.out; unfold cnt at h; rw [if_neg (by unfold cok; dsimp only; simp [hs])] at h; exact h.symm⟩
     clear hs
     go_wp2
     go_ret2
     refine ⟨fun _ => rfl, ?_, HB.out⟩
     intro t ht
     rw [HN.out] at ht
     cases ht
 case rest =>
  clear HA HB HR
  obtain ⟨t, HT, HA, HB⟩ := hcut
  have HTL : Aside0 (t.length = 15) := ⟨(Kd.R_reads' HA.out).1.symm⟩
  go_upto_block 2 with (fail)
  go_cut [12, 65] (fun v12 v65 wd => Aside0 (Kd.R k42 42 wd w.heap.size (fun k => k ≠ gA) v12 (keepR t)) ∧ Aside0 (Below w.heap.size w wd))
  case first =>
   go_wp2
   go_loopg [12, 65] 15 (fun kq v12 v65 w' => ∃ (m : Nat), v65 = .int .i64 (m : Int) ∧ Aside0 (m + kq = 15) ∧ Aside0 (Kd.R k42 42 w' w.heap.size (fun k => k = gA) (.slice (some ⟨gA, 0, none⟩) 15 ca) t) ∧ Aside0 (Kd.R k42 42 w' w.heap.size (fun k => k ≠ gA) v12 (keepR (t.take m))) ∧ Aside0 (Below w.heap.size w w'))
   case atStart => exact ⟨0, rfl, ⟨by omega⟩, HA, ⟨by simpa [keepR] using Kd.R_nil k42 42 wc w.heap.size (fun k => k ≠ gA)⟩, HB⟩
   case round =>
    clear HA HB
    obtain ⟨m, rfl, HI, HA, HO, HB⟩ := hrel
    cases gk with
    | zero =>
     obtain rfl : m = 15 := by have := HI.out; omega
     rw [List.take_of_length_le (by have := HTL.out; omega)] at HO
     go_wp2
     go_meet
     case rel => exact ⟨HO, HB⟩
    | succ kq =>
     have HM : Aside0 (m < 15) := ⟨by have := HI.out; omega⟩
     have c1b : decide ((m : Int) < 15) = true := decide_eq_true (by have := HM.out; omega); have c1i : ((m : Int) < 15) = True := eq_true (by have := HM.out; omega); have c1n : (m < 15) = True := eq_true HM.out
     have p0 : (0 ≤ (m : Int)) = True := eq_true (by omega)
     have hw1 : wrap64 ((m : Int) + 1) = (m : Int) + 1 := by have := HM.out; unfold wrap64; omega
     obtain ⟨⟨e0, e1, e2, e3, e4⟩, -, -⟩ := row5 HA.out m HM.out
     have HK := Aside0.mk (keepR_take t m (by have := HM.out; have := HTL.out; omega))
     generalize rd_T42 t (m : Int) = q at e0 e1 e2 e3 e4 HK
     go_upto_region 17 with (fail)
     have HG9 : Aside0 ((wr.alloc (.cells #[.int .i64 q.f0, .int .i64 q.f1, .int .i64 q.f2, .int .i64 q.f3, .int .i64 q.f4] 42)).heap[wr.heap.size]? = some (.cells #[.int .i64 q.f0, .int .i64 q.f1, .int .i64 q.f2, .int .i64 q.f3, .int .i64 q.f4] 42 (0, 0))) := ⟨blk_new wr _⟩
     have hb1 := below_alloc (Below.refl wr.heap.size wr) (.cells #[.int .i64 q.f0, .int .i64 q.f1, .int .i64 q.f2, .int .i64 q.f3, .int .i64 q.f4] 42)
     replace HA := Aside0.mk (Kd.R_below HA.out hb1)
     replace HO := Aside0.mk (Kd.R_below HO.out hb1)
     replace HB := Aside0.mk (below_then HB.out HB.out.size hb1)
     clear hb1 e0 e1 e2 e3 e4
     generalize wr.alloc (.cells #[.int .i64 q.f0, .int .i64 q.f1, .int .i64 q.f2, .int .i64 q.f3, .int .i64 q.f4] 42) = w3 at HG9 HA HO HB ⊢
     generalize wr.heap.size = g at HG9 ⊢
     have b0 : w3.cell? ⟨g, 0, none⟩ = some (.int .i64 q.f0) := (blk_cell HG9.out 0).trans rfl
     have b1 : w3.cell? ⟨g, 1, none⟩ = some (.int .i64 q.f1) := (blk_cell HG9.out 1).trans rfl
     have b2 : w3.cell? ⟨g, 2, none⟩ = some (.int .i64 q.f2) := (blk_cell HG9.out 2).trans rfl
     have b3 : w3.cell? ⟨g, 3, none⟩ = some (.int .i64 q.f3) := (blk_cell HG9.out 3).trans rfl
     have b4 : w3.cell? ⟨g, 4, none⟩ = some (.int .i64 q.f4) := (blk_cell HG9.out 4).trans rfl
     by_cases hq : totR q > 0
     ·have hq1 : decide (0 < totR q) = true := decide_eq_true hq
      have hq2 : (0 < totR q) = True := eq_true hq
      rw [if_pos hq] at HK
      clear hq
      go_wp2_with (first | (go_at_call 29; go_must (refine (stat_total.calls q.f0 q.f1 q.f2 q.f3 q.f4 (totR q) w3 rfl).mono ?_; rintro e w5 ⟨rfl, hb5⟩; have HA5 := Aside0.mk (Kd.R_below HA.out hb5); have HO5 := Aside0.mk (Kd.R_below HO.out hb5); have HB5 := Aside0.mk (below_then HB.out HB.out.size hb5); replace b0 := pw_cell_below hb5 b0; replace b1 := pw_cell_below hb5 b1; replace b2 := pw_cell_below hb5 b2; replace b3 := pw_cell_below hb5 b3; replace b4 := pw_cell_below hb5 b4; clear hb5 HA HO HB)) | ((with_reducible refine gate_builtin (b := .append) (xs := #[.tmp 72, .tmp 74]) rfl ?_); at_builtin; refine Kd.R_append k42 (w0 := w) (W := w5) w.heap.size rfl (.tmp 72) (.tmp 74) 25 42 (.agg #[(.int .i64 0), (.int .i64 0), (.int .i64 0), (.int .i64 0), (.int .i64 0)]) 40 rfl Try.underlying25 info42 rfl (by decide) (by omega) u12 (keepR (t.take m)) q [.int .i64 q.f0, .int .i64 q.f1, .int .i64 q.f2, .int .i64 q.f3, .int .i64 q.f4] (fun k => k ≠ gA) (fun _ => False) rfl rfl ?aP (fun _ hk => hk.elim) ?aF ?aO ?aB ?aS ?aL ?_; (case aP => exact k42_mkM _ _ _ q); (case aB => exact HB5.out); (case aF => exact (fun k hk => by have := Kd.R_lt HA5.out gA rfl; omega)); (case aO => exact HO5.out); (case aS => exact HB5.out.size); (case aL => have h1 := keepR_len (t.take m); have h2 : (t.take m).length ≤ t.length := List.length_take_le' _ _; have h3 := HTL.out; omega); intro v7 w7 ho hb hg hat; have HA7 : Aside0 (Kd.R k42 42 w7 w.heap.size (fun k => k = gA) (.slice (some ⟨gA, 0, none⟩) 15 ca) t) := ⟨Kd.R_grown HA5.out hg (fun k hk he => by subst hk; exact HO5.out.1 k he.symm rfl)⟩; have HO7 := Aside0.mk ho; have HB7 := Aside0.mk hb; clear ho hb hg hat HA5 HO5 HB5))
      go_roundg kq
      case measure => omega
      case rel => exact ⟨m + 1, by push_cast; rw [hw1], ⟨by have := HI.out; omega⟩, HA7, ⟨by rw [HK.out]; exact HO7.out⟩, HB7⟩
     ·have hq1 : decide (0 < totR q) = false := decide_eq_false hq
      have hq2 : (0 < totR q) = False := eq_false hq
      rw [if_neg hq] at HK
      clear hq
      go_wp2_with (go_at_call 29; go_must (refine (stat_total.calls q.f0 q.f1 q.f2 q.f3 q.f4 (totR q) w3 rfl).mono ?_; rintro e w5 ⟨rfl, hb5⟩; have HA5 := Aside0.mk (Kd.R_below HA.out hb5); have HO5 := Aside0.mk (Kd.R_below HO.out hb5); have HB5 := Aside0.mk (below_then HB.out HB.out.size hb5); clear hb5 HA HO HB))
      go_roundg kq
      case measure => omega
      case rel => exact ⟨m + 1, by push_cast; rw [hw1], ⟨by have := HI.out; omega⟩, HA5, ⟨by rw [HK.out]; exact HO5.out⟩, HB5⟩
  case rest =>
  clear HA HB
  obtain ⟨HO, HB⟩ := hcut
  go_wp2
  go_ret2
  refine ⟨fun h => ?_, fun t' ht => ?_, HB.out⟩
  ·rw [HT.out] at h; cases h
  ·rw [HT.out] at ht
   obtain rfl : t = t' := by injection ht
   exact ⟨_, rfl, Kd.R_mono HO.out (fun _ _ => trivial)⟩
theorem Count_short (A0 : Option Addr) (c0 : Nat) (l : List S67) (A1 : Option Addr) (c1 : Nat) (v : List SV) (w : World) (hlv : l.length ≠ v.length) :
  Calls Try.prog 10 #[.slice A0 l.length c0, .slice A1 v.length c1] w fun e w' => e = .returned (.tuple #[.slice none 0 0, .int .i64 1]) ∧ Below w.heap.size w w' := by
 have h1 : ((l.length : Int) != (v.length : Int)) = true := bne_iff_ne.mpr (by omega)
 have h2 : ((l.length : Int) == (v.length : Int)) = false := beq_eq_false_iff_ne.mpr (by omega)
 have h3 : (l.length == v.length) = false := beq_eq_false_iff_ne.mpr hlv
 have h4 : (l.length = v.length) = False := eq_false hlv
 have h5 : (l.length != v.length) = true := bne_iff_ne.mpr hlv
 clear hlv
 have HB := Aside0.mk (Below.refl w.heap.size w)
 go_enter Try.func10, Try.ntmps10
 go_wp2
 go_ret2
 exact ⟨rfl, HB.out⟩
/-- Count, as printed contracts have it. -/
def CountG (l : List S67) (v : List SV) : List S42 × Int := match CountF l v with | some t => (t, 0) | none => ([], 1)
theorem stat_Count.calls (A0 : Option Addr) (c0 : Nat) (l : List S67) (A1 : Option Addr) (c1 : Nat) (v : List SV) (w : World) (hC : Kd.C k67 w A0 l.length l) (hc : l.length ≤ c0) (hV : Kd.C kV w A1 v.length v) (hc1 : v.length ≤ c1) :
  Calls Try.prog 10 #[.slice A0 l.length c0, .slice A1 v.length c1] w fun e w' => ∃ v0_ : Value, e = .returned (.tuple #[v0_, .int .i64 (CountG l v).2]) ∧ Kd.R k42 42 w' w.heap.size (fun _ => True) v0_ (CountG l v).1 ∧ Below w.heap.size w w' := by
 unfold CountG CountF
 by_cases hlv : l.length = v.length
 ·rw [if_pos hlv]
  cases hR : cnt 0 (List.replicate 15 z42) l v with
  | none => exact (Count_calls A0 c0 l A1 c1 v _ w hC hc hV hc1 hlv hR).mono (fun e w' h => ⟨_, h.1 rfl, Kd.R_nil _ _ _ _ _, h.2.2⟩)
  | some t => exact (Count_calls A0 c0 l A1 c1 v _ w hC hc hV hc1 hlv hR).mono (fun e w' h => by obtain ⟨V, h1, h2⟩ := h.2.1 t rfl; exact ⟨V, h1, h2, h.2.2⟩)
 ·rw [if_neg hlv]
  exact (Count_short A0 c0 l A1 c1 v w hlv).mono (fun e w' h => ⟨_, h.1, Kd.R_nil _ _ _ _ _, h.2⟩)
end Go.Proofs.Ytcmknnhhbcgoiaa.QN
