/- The document's spool: what its calls do, in memory. -/
import Derived.Test.YtkohkcnajddcoaaKeeps
namespace Go.Proofs.Ytkohkcnajddcoaa.QN
open Go.RowKit Go.Conc Go.Proofs.YtkohkcnajddcoaaW.PrintWords Go.Proofs.YtkohkcnajddcoaaW.PrintLast Go.Proofs.YtkohkcnajddcoaaW.PrintMore
set_option linter.unusedVariables false
set_option linter.unusedSimpArgs false

/-- A slice that reads so; its row lies between B and the heap's end. -/
def RO (W : World) (B : Nat) (v : Value) (xs : List Int) : Prop := ∃ A cc, v = .slice A xs.length cc ∧ xs.length ≤ cc ∧ Kd.C (Kd.int .i64) W A xs.length xs ∧ ∀ a, A = some a → B ≤ a.block ∧ a.block < W.heap.size
section
variable {W W2 : World} {B : Nat} {v : Value} {xs : List Int} {S : Nat → Prop}
theorem RO.kept (h : RO W B v xs) (hk : Kept W W2 S) (hs : ∀ k, S k → k < B) : RO W2 B v xs := by
  obtain ⟨A, cc, rfl, hl, hC, hA⟩ := h
  refine ⟨A, cc, rfl, hl, ⟨hC.1, hC.2.1, fun hn => ?_⟩, fun a ha => ⟨(hA a ha).1, Nat.lt_of_lt_of_le (hA a ha).2 hk.1⟩⟩
  obtain ⟨ad, e, hc⟩ := hC.2.2 hn
  refine ⟨ad, e, fun j p hj => ?_⟩
  obtain ⟨cs, h1, h2, h3⟩ := hc j p hj
  refine ⟨cs, h1, h2, fun i u hu => ?_⟩
  have hb := hA ad e
  have h5 : ∀ n, (ad.add n).block = ad.block := fun n => by unfold Addr.add; split <;> rfl
  exact cell_kept (h3 i u hu) hk (fun hS => by have h4 := hs _ hS; rw [h5] at h4; omega)
theorem RO.below (h : RO W B v xs) (hb : Below W.heap.size W W2) : RO W2 B v xs := h.kept (Kept.of_below hb (fun _ => False)) (fun _ h => h.elim)
theorem RO.nil (W : World) (B : Nat) : RO W B (.slice none 0 0) [] := ⟨none, 0, rfl, Nat.le_refl _, Kd.C_nil _ _, fun a h => by cases h⟩
end
/-- Two blocks made one behind the other. -/
theorem two_new (W : World) (a b : Array Value) (t u : TypeId) : ((W.alloc (.cells a t)).alloc (.cells b u)).heap[W.heap.size]? = some (.cells a t (0, 0)) ∧ ((W.alloc (.cells a t)).alloc (.cells b u)).heap[W.heap.size + 1]? = some (.cells b u (0, 0)) ∧ Below W.heap.size W ((W.alloc (.cells a t)).alloc (.cells b u)) :=
  ⟨blk_alloc (blk_new W _) _, by have := blk_new (W.alloc (.cells a t)) (.cells b u); simpa using this, below_alloc (below_alloc (Below.refl _ _) _) _⟩
theorem put3 {W : World} {g : Nat} {a b c a' b' c' : Value} {t : TypeId} (h : W.heap[g]? = some (.cells #[a, b, c] t (0, 0))) : (((W.setCell ⟨g, 0, none⟩ a').setCell ⟨g, 1, none⟩ b').setCell ⟨g, 2, none⟩ c').heap[g]? = some (.cells #[a', b', c'] t (0, 0)) :=
  blk_put (cs := #[a', b', c]) (blk_put (cs := #[a', b, c]) (blk_put h 0 _ rfl) 1 _ rfl) 2 _ rfl
theorem below3 {B : Nat} {W0 W : World} {g : Nat} {a' b' c' : Value} (h : Below B W0 W) (hg : B ≤ g) : Below B W0 (((W.setCell ⟨g, 0, none⟩ a').setCell ⟨g, 1, none⟩ b').setCell ⟨g, 2, none⟩ c') := ((h.setCell hg _).setCell hg _).setCell hg _
theorem info43 : (Try.prog.info? 43).map (·.size) = some 3 := by kernel_rfl
section
variable {W : World} {B : Nat} {v : Value} {xs : List Int}
theorem refPut_no (R : Nat) (cl : Bool) (x : Int) (h : RO W B v xs) (hno : cl = true ∨ (cl = false ∧ R ≤ xs.length)) : Calls Try.prog 21 #[.agg #[v, .int .i64 (R : Int), .bool cl], .int .i64 x] W fun e w' => e = .returned (.tuple #[.agg #[v, .int .i64 (R : Int), .bool cl], .bool false]) ∧ Below W.heap.size W w' := by
  obtain ⟨A, cc, rfl, hl, hC, hA⟩ := h
  have HNO := Aside0.mk hno
  clear hC hA hno hl
  obtain ⟨h1, h2, hb⟩ := two_new W #[.slice A xs.length cc, .int .i64 (R : Int), .bool cl] #[.slice none 0 0, .int .i64 0, .bool false] 43 43
  have H1 := Aside0.mk h1
  have H2 := Aside0.mk h2
  have HB := Aside0.mk hb
  have HG : Aside0 (W.heap.size ≤ W.heap.size + 1) := ⟨Nat.le_succ _⟩
  clear h1 h2 hb
  go_enter Try.func21, Try.ntmps21
  go_upto_region 1 with (fail)
  generalize (W.alloc (.cells #[.slice A xs.length cc, .int .i64 (R : Int), .bool cl] 43)).alloc (.cells #[.slice none 0 0, .int .i64 0, .bool false] 43) = w2 at H1 H2 HB ⊢
  generalize hg2 : W.heap.size + 1 = g2 at H2 HG ⊢
  generalize hg1 : W.heap.size = g1 at H1 ⊢
  have a0 : w2.cell? ⟨g1, 0, none⟩ = some (.slice A xs.length cc) := (blk_cell H1.out 0).trans rfl
  have a1 : w2.cell? ⟨g1, 1, none⟩ = some (.int .i64 (R : Int)) := (blk_cell H1.out 1).trans rfl
  have a2 : w2.cell? ⟨g1, 2, none⟩ = some (.bool cl) := (blk_cell H1.out 2).trans rfl
  have b0 : w2.cell? ⟨g2, 0, none⟩ = some (.slice none 0 0) := (blk_cell H2.out 0).trans rfl
  have b1 : w2.cell? ⟨g2, 1, none⟩ = some (.int .i64 0) := (blk_cell H2.out 1).trans rfl
  have b2 : w2.cell? ⟨g2, 2, none⟩ = some (.bool false) := (blk_cell H2.out 2).trans rfl
  have f0 : w2.frozen? ⟨g2, 0, none⟩ = false := blk_frozen H2.out 0
  have f1 : w2.frozen? ⟨g2, 1, none⟩ = false := blk_frozen H2.out 1
  have f2 : w2.frozen? ⟨g2, 2, none⟩ = false := blk_frozen H2.out 2
  rcases HNO.out with rfl | ⟨rfl, hr⟩
  · go_wp2
    refine bodyPost_ret (results_ct rfl _ _ g2 43 #[.slice A xs.length cc, .int .i64 (R : Int), .bool true] (0, 0) _ rfl (put3 H2.out) Try.underlying43 rfl info43) rfl ?_
    subst hg1
    exact ⟨rfl, below3 HB.out HG.out⟩
  · have c1 : decide ((R : Int) ≤ (xs.length : Int)) = true := decide_eq_true (by omega)
    have c2 : ((R : Int) ≤ (xs.length : Int)) = True := eq_true (by omega)
    have c3 : (R ≤ xs.length) = True := eq_true hr
    clear hr
    go_wp2
    refine bodyPost_ret (results_ct rfl _ _ g2 43 #[.slice A xs.length cc, .int .i64 (R : Int), .bool false] (0, 0) _ rfl (put3 H2.out) Try.underlying43 rfl info43) rfl ?_
    subst hg1
    exact ⟨rfl, below3 HB.out HG.out⟩
theorem refPut_yes (R : Nat) (x : Int) (h : RO W B v xs) (hx : xs.length < R) (hR : R ≤ 1024) : Calls Try.prog 21 #[.agg #[v, .int .i64 (R : Int), .bool false], .int .i64 x] W fun e w' => ∃ v', e = .returned (.tuple #[.agg #[v', .int .i64 (R : Int), .bool false], .bool true]) ∧ RO w' W.heap.size v' (xs ++ [x]) ∧ Below W.heap.size W w' := by
  obtain ⟨A, cc, rfl, hl, hC, hA⟩ := h
  have HC := Aside0.mk hC
  have HX : Aside0 (xs.length < R ∧ R ≤ 1024) := ⟨hx, hR⟩
  have HW : Aside0 (∀ W', Below W.heap.size W W' → Below W.heap.size W W') := ⟨fun _ h => h⟩
  clear hC hA hl hx hR
  obtain ⟨h1, h2, hb⟩ := two_new W #[.slice A xs.length cc, .int .i64 (R : Int), .bool false] #[.slice none 0 0, .int .i64 0, .bool false] 43 43
  have H1 := Aside0.mk h1
  have H2 := Aside0.mk h2
  have HB := Aside0.mk hb
  have HG : Aside0 (W.heap.size ≤ W.heap.size + 1 ∧ W.heap.size ≠ W.heap.size + 1) := ⟨Nat.le_succ _, by omega⟩
  clear h1 h2 hb
  go_enter Try.func21, Try.ntmps21
  go_upto_region 1 with (fail)
  generalize (W.alloc (.cells #[.slice A xs.length cc, .int .i64 (R : Int), .bool false] 43)).alloc (.cells #[.slice none 0 0, .int .i64 0, .bool false] 43) = w2 at H1 H2 HB ⊢
  have HG1 : Aside0 (W.heap.size ≤ W.heap.size) := ⟨Nat.le_refl _⟩
  obtain ⟨g1, hg1⟩ : ∃ g1, W.heap.size = g1 := ⟨_, rfl⟩
  obtain ⟨g2, hg2⟩ : ∃ g2, W.heap.size + 1 = g2 := ⟨_, rfl⟩
  have HGG : Aside0 (W.heap.size ≤ g1 ∧ W.heap.size ≤ g2 ∧ g1 ≠ g2) := ⟨by omega⟩
  rw [hg2] at H2 ⊢
  rw [hg1] at H1 ⊢
  clear hg1 hg2 HG HG1
  have a0 : w2.cell? ⟨g1, 0, none⟩ = some (.slice A xs.length cc) := (blk_cell H1.out 0).trans rfl
  have a1 : w2.cell? ⟨g1, 1, none⟩ = some (.int .i64 (R : Int)) := (blk_cell H1.out 1).trans rfl
  have a2 : w2.cell? ⟨g1, 2, none⟩ = some (.bool false) := (blk_cell H1.out 2).trans rfl
  have c1 : decide ((R : Int) ≤ (xs.length : Int)) = false := decide_eq_false (by have := HX.out; omega)
  have c2 : ((R : Int) ≤ (xs.length : Int)) = False := eq_false (by have := HX.out; omega)
  have c3 : (R ≤ xs.length) = False := eq_false (by have := HX.out; omega)
  go_upto_block 0 with (fail)
  clear c1 c2 c3 a0 a1 a2
  have HR0 : Aside0 ((Kd.int .i64).R 3 w2 W.heap.size (fun k => k ≠ g1 ∧ k ≠ g2) (.slice none 0 0) (xs.take 0)) := ⟨Kd.R_nil _ _ _ _ _⟩
  go_cut [6, 7] (fun v6 v7 wc => ∃ (A6 : Option Addr) (c6 : Nat), v6 = .slice A6 xs.length c6 ∧ Aside0 ((Kd.int .i64).R 3 wc W.heap.size (fun k => k ≠ g1 ∧ k ≠ g2) (.slice A6 xs.length c6) xs) ∧ Aside0 (wc.heap[g1]? = some (.cells #[.slice A xs.length cc, .int .i64 (R : Int), .bool false] 43 (0, 0))) ∧ Aside0 (wc.heap[g2]? = some (.cells #[.slice none 0 0, .int .i64 0, .bool false] 43 (0, 0))) ∧ Aside0 (Below W.heap.size W wc))
  case first =>
    go_wp2
    go_loopg [6, 7] xs.length (fun kq v6 v7 w' => ∃ (m : Nat) (A6 : Option Addr) (c6 : Nat), v6 = .slice A6 m c6 ∧ v7 = .int .i64 (m : Int) ∧ Aside0 (m + kq = xs.length) ∧ Aside0 ((Kd.int .i64).R 3 w' W.heap.size (fun k => k ≠ g1 ∧ k ≠ g2) (.slice A6 m c6) (xs.take m)) ∧ Aside0 (w'.heap[g1]? = some (.cells #[.slice A xs.length cc, .int .i64 (R : Int), .bool false] 43 (0, 0))) ∧ Aside0 (w'.heap[g2]? = some (.cells #[.slice none 0 0, .int .i64 0, .bool false] 43 (0, 0))) ∧ Aside0 (Below W.heap.size W w'))
    case atStart => exact ⟨0, none, 0, rfl, rfl, ⟨by omega⟩, HR0, H1, H2, HB⟩
    case round =>
      clear HR0 H1 H2 HB
      obtain ⟨m, A6, c6, rfl, rfl, HI, HR, H1, H2, HB⟩ := hrel
      have a0 : wr.cell? ⟨g1, 0, none⟩ = some (.slice A xs.length cc) := (blk_cell H1.out 0).trans rfl
      cases gk with
      | zero =>
        obtain rfl : m = xs.length := by have := HI.out; omega
        have HR2 : Aside0 ((Kd.int .i64).R 3 wr W.heap.size (fun k => k ≠ g1 ∧ k ≠ g2) (.slice A6 xs.length c6) xs) := ⟨by have h := HR.out; rw [List.take_length] at h; exact h⟩
        go_wp2
        go_meet
        case rel => exact ⟨A6, c6, rfl, HR2, H1, H2, HB⟩
      | succ kq =>
        have HC1 : Aside0 (m < xs.length) := ⟨by have := HI.out; omega⟩
        have c0 := HC1.out
        have c1b : decide ((m : Int) < (xs.length : Int)) = true := decide_eq_true (by omega); have c1i : ((m : Int) < (xs.length : Int)) = True := eq_true (by omega); have c1n : (m < xs.length) = True := eq_true (by omega)
        have p0 : (0 ≤ (m : Int)) = True := eq_true (by omega)
        have hw1 : wrap64 ((m : Int) + 1) = (m : Int) + 1 := w64 (by omega) (by have := HX.out; omega)
        obtain ⟨ad, ea, hx⟩ := Kd.at_int (Kd.C_below HC.out HB.out) (m : Int) (by omega) (by omega)
        subst ea
        simp only [Int.toNat_natCast] at hx
        have HT : Aside0 (xs.take m ++ [rd xs (m : Int)] = xs.take (m + 1)) := ⟨by rw [rd_get xs m c0]; exact take_one xs m c0⟩
        clear c0
        go_wp2_with (((with_reducible refine gate_builtin (b := .append) (xs := #[.tmp 26, .tmp 32]) rfl ?_); at_builtin; go_must (refine Kd.R_append (Kd.int .i64) (w0 := W) (W := wr) W.heap.size rfl (.tmp 26) (.tmp 32) 22 3 (.int .i64 0) 8 rfl Try.underlying22 info3 rfl (by decide) (by omega) (.slice A6 m c6) (xs.take m) (rd xs (m : Int)) [.int .i64 (rd xs (m : Int))] (fun k => k ≠ g1 ∧ k ≠ g2) (fun _ => False) rfl rfl rfl (fun _ hk => hk.elim) (fun k hk => by have := blk_lt H1.out; have := blk_lt H2.out; omega) HR.out HB.out HB.out.size (by rw [List.length_take]; have := HC1.out; have := HX.out; omega) ?_; intro v7 w7 hr7 hb7 hg7 hat7; rw [HT.out] at hr7; have HR7 := Aside0.mk hr7; have HB7 := Aside0.mk hb7; have hrow : ∀ k, (Value.slice A6 m c6).ownBlock = some k → k ≠ g1 ∧ k ≠ g2 := fun k hk => HR.out.1 k hk; have H17 := Aside0.mk (blk_grown H1.out hg7 (fun e => (hrow _ e.symm).1 rfl)); have H27 := Aside0.mk (blk_grown H2.out hg7 (fun e => (hrow _ e.symm).2 rfl)); clear hr7 hb7 hg7 hat7 HR HB hx hrow H1 H2 a0)))
        obtain ⟨A7, cc7, rfl⟩ := Kd.R_slice HR7.out
        have hl7 : (xs.take (m + 1)).length = m + 1 := by rw [List.length_take]; have := HC1.out; omega
        rw [hl7] at HR7 ⊢
        clear hl7
        go_roundg kq
        case measure => omega
        case rel => exact ⟨m + 1, A7, cc7, rfl, by push_cast; rw [hw1], ⟨by have := HI.out; omega⟩, HR7, H17, H27, HB7⟩
  case rest =>
  clear HR0 H1 H2 HB
  obtain ⟨A6, c6, rfl, HR, H1, H2, HB⟩ := hcut
  have a0 : wc.cell? ⟨g1, 0, none⟩ = some (.slice A xs.length cc) := (blk_cell H1.out 0).trans rfl
  have f0 : wc.frozen? ⟨g1, 0, none⟩ = false := blk_frozen H1.out 0
  go_upto_region 9 with (((with_reducible refine gate_builtin (b := .append) (xs := #[.tmp 34, .tmp 36]) rfl ?_); at_builtin; go_must (refine Kd.R_append (Kd.int .i64) (w0 := W) (W := wc) W.heap.size rfl (.tmp 34) (.tmp 36) 22 3 (.int .i64 0) 8 rfl Try.underlying22 info3 rfl (by decide) (by omega) (.slice A6 xs.length c6) xs x [.int .i64 x] (fun k => k ≠ g1 ∧ k ≠ g2) (fun _ => False) rfl rfl rfl (fun _ hk => hk.elim) (fun k hk => by have := blk_lt H1.out; have := blk_lt H2.out; omega) HR.out HB.out HB.out.size (by have := HX.out; omega) ?_; intro v7 w7 hr7 hb7 hg7 hat7; have HR7 := Aside0.mk hr7; have HB7 := Aside0.mk hb7; have hrow : ∀ k, (Value.slice A6 xs.length c6).ownBlock = some k → k ≠ g1 ∧ k ≠ g2 := fun k hk => HR.out.1 k hk; have H17 := Aside0.mk (blk_grown H1.out hg7 (fun e => (hrow _ e.symm).1 rfl)); have H27 := Aside0.mk (blk_grown H2.out hg7 (fun e => (hrow _ e.symm).2 rfl)); clear hr7 hb7 hg7 hat7 HR HB hrow H1 H2 a0 f0; obtain ⟨A7, cc7, rfl⟩ := Kd.R_slice HR7.out; have a0 : w7.cell? ⟨g1, 0, none⟩ = some (.slice A xs.length cc) := (blk_cell H17.out 0).trans rfl; have f0 : w7.frozen? ⟨g1, 0, none⟩ = false := blk_frozen H17.out 0)))
  have hl7 : (xs ++ [x]).length = xs.length + 1 := by simp
  have H18 : Aside0 ((w7.setCell ⟨g1, 0, none⟩ (.slice A7 (xs ++ [x]).length cc7)).heap[g1]? = some (.cells #[.slice A7 (xs ++ [x]).length cc7, .int .i64 (R : Int), .bool false] 43 (0, 0))) := ⟨blk_put H17.out 0 _ rfl⟩
  have H28 : Aside0 ((w7.setCell ⟨g1, 0, none⟩ (.slice A7 (xs ++ [x]).length cc7)).heap[g2]? = some (.cells #[.slice none 0 0, .int .i64 0, .bool false] 43 (0, 0))) := ⟨blk_far H27.out (fun e => HGG.out.2.2 e.symm) _⟩
  have HB8 : Aside0 (Below W.heap.size W (w7.setCell ⟨g1, 0, none⟩ (.slice A7 (xs ++ [x]).length cc7))) := ⟨HB7.out.setCell HGG.out.1 _⟩
  have HR8 : Aside0 ((Kd.int .i64).R 3 (w7.setCell ⟨g1, 0, none⟩ (.slice A7 (xs ++ [x]).length cc7)) W.heap.size (fun k => k ≠ g1 ∧ k ≠ g2) (.slice A7 (xs ++ [x]).length cc7) (xs ++ [x])) := ⟨Kd.R_far HR7.out (fun k hk => hk.1) _⟩
  clear HR7 HB7 H17 H27 a0 f0
  rw [hl7] at H18 H28 HB8 HR8
  try rw [hl7]
  generalize w7.setCell ⟨g1, 0, none⟩ (.slice A7 (xs.length + 1) cc7) = w8 at H18 H28 HB8 HR8 ⊢
  have a0 : w8.cell? ⟨g1, 0, none⟩ = some (.slice A7 (xs.length + 1) cc7) := (blk_cell H18.out 0).trans rfl
  have a1 : w8.cell? ⟨g1, 1, none⟩ = some (.int .i64 (R : Int)) := (blk_cell H18.out 1).trans rfl
  have a2 : w8.cell? ⟨g1, 2, none⟩ = some (.bool false) := (blk_cell H18.out 2).trans rfl
  have b0 : w8.cell? ⟨g2, 0, none⟩ = some (.slice none 0 0) := (blk_cell H28.out 0).trans rfl
  have b1 : w8.cell? ⟨g2, 1, none⟩ = some (.int .i64 0) := (blk_cell H28.out 1).trans rfl
  have b2 : w8.cell? ⟨g2, 2, none⟩ = some (.bool false) := (blk_cell H28.out 2).trans rfl
  have f0 : w8.frozen? ⟨g2, 0, none⟩ = false := blk_frozen H28.out 0
  have f1 : w8.frozen? ⟨g2, 1, none⟩ = false := blk_frozen H28.out 1
  have f2 : w8.frozen? ⟨g2, 2, none⟩ = false := blk_frozen H28.out 2
  go_wp2
  refine bodyPost_ret (results_ct rfl _ _ g2 43 #[.slice A7 (xs.length + 1) cc7, .int .i64 (R : Int), .bool false] (0, 0) _ rfl (put3 H28.out) Try.underlying43 rfl info43) rfl ?_
  have hr9 := Kd.R_far (p := ⟨g2, 2, none⟩) (Kd.R_far (p := ⟨g2, 1, none⟩) (Kd.R_far (p := ⟨g2, 0, none⟩) HR8.out (fun k hk => hk.2) (.slice A7 (xs.length + 1) cc7)) (fun k hk => hk.2) (.int .i64 (R : Int))) (fun k hk => hk.2) (.bool false)
  have hb9 := below3 (a' := .slice A7 (xs.length + 1) cc7) (b' := .int .i64 (R : Int)) (c' := .bool false) HB8.out HGG.out.2.1
  generalize ((w8.setCell ⟨g2, 0, none⟩ (.slice A7 (xs.length + 1) cc7)).setCell ⟨g2, 1, none⟩ (.int .i64 (R : Int))).setCell ⟨g2, 2, none⟩ (.bool false) = w9 at hr9 hb9 ⊢
  rw [← hl7] at hr9 ⊢
  have h9 := Kd.R_reads' hr9
  refine ⟨_, rfl, ⟨A7, cc7, rfl, h9.2.1, h9.2.2, fun a ha => ?_⟩, hb9⟩
  subst ha
  exact ⟨Kd.R_base hr9 _ rfl, Kd.R_lt hr9 _ rfl⟩
/-- A row cut. -/
theorem RO.mk_ {W : World} {B : Nat} {A : Option Addr} {n c : Nat} {xs : List Int} (hn : xs.length = n) (hc : n ≤ c) (hC : Kd.C (Kd.int .i64) W A n xs) (hA : ∀ a, A = some a → B ≤ a.block ∧ a.block < W.heap.size) : RO W B (.slice A n c) xs := by
  subst hn
  exact ⟨A, c, rfl, hc, hC, hA⟩
theorem type3 : ∃ i, Try.prog.info? 3 = some i ∧ i.size = 1 := by
  have h : (Try.prog.info? 3).map (·.size) = some 1 := by kernel_rfl
  obtain ⟨i, hi, hb⟩ := Option.map_eq_some_iff.1 h
  exact ⟨i, hi, hb⟩
theorem cut_drop {W : World} {B : Nat} {xs : List Int} (A : Option Addr) (n c m : Nat) (hm : m ≤ n) (hn : xs.length = n) (hc : n ≤ c) (hC : Kd.C (Kd.int .i64) W A n xs) (hA : ∀ a, A = some a → B ≤ a.block ∧ a.block < W.heap.size) :
    ∃ A1, (∀ U : World, (Instr.slice 22 (.slice A n c) (some (.int .i64 (m : Int))) none none).run Try.prog U = .ok (.slice A1 (n - m) (c - m)) U) ∧ RO W B (.slice A1 (n - m) (c - m)) (xs.drop m) := by
  obtain ⟨i, hi, hs⟩ := type3
  have h := cut_from (P := Try.prog) 22 3 .i64 Try.underlying22 hi 1 hs A n c (m : Int) (by omega) (by omega)
  simp only [Int.toNat_natCast, Nat.mul_one] at h
  refine ⟨_, h, ?_⟩
  subst hn
  have h2 := Kd.C_drop (c := c) hC hm hc
  have hl : (xs.drop m).length = xs.length - m := List.length_drop
  rw [hl] at h2
  simp only [show (Kd.int .i64).sz = 1 from rfl, Nat.mul_one] at h2
  refine RO.mk_ hl (by omega) h2 (fun a ha => ?_)
  split at ha
  · exact hA a ha
  · cases A with
    | none => simp at ha
    | some b =>
      simp at ha
      subst ha
      have : (b.add m).block = b.block := by unfold Addr.add; split <;> rfl
      rw [this]
      exact hA b rfl
theorem cut_take {W : World} {B : Nat} {xs : List Int} (A : Option Addr) (n c m : Nat) (hm : m ≤ n) (hn : xs.length = n) (hc : n ≤ c) (hC : Kd.C (Kd.int .i64) W A n xs) (hA : ∀ a, A = some a → B ≤ a.block ∧ a.block < W.heap.size) :
    (∀ U : World, (Instr.slice 22 (.slice A n c) none (some (.int .i64 (m : Int))) none).run Try.prog U = .ok (.slice A m c) U) ∧ RO W B (.slice A m c) (xs.take m) := by
  obtain ⟨i, hi, hs⟩ := type3
  have h := cut_to (P := Try.prog) 22 3 .i64 Try.underlying22 hi A n c (m : Int) (by omega) (by omega) hc
  simp only [Int.toNat_natCast] at h
  refine ⟨h, ?_⟩
  subst hn
  have h2 := Kd.C_take (m := m) hC hm
  have hl : (xs.take m).length = m := by rw [List.length_take]; omega
  rw [hl] at h2
  exact RO.mk_ hl (by omega) h2 hA
theorem refTake_no (R : Nat) (cl : Bool) (h : RO W B v []) : Calls Try.prog 22 #[.agg #[v, .int .i64 (R : Int), .bool cl]] W fun e w' => e = .returned (.tuple #[.agg #[v, .int .i64 (R : Int), .bool cl], .int .i64 0, .bool false]) ∧ Below W.heap.size W w' := by
  obtain ⟨A, cc, rfl, hl, hC, hA⟩ := h
  clear hC hA hl
  obtain ⟨h1, h2, hb⟩ := two_new W #[.slice A ([] : List Int).length cc, .int .i64 (R : Int), .bool cl] #[.slice none 0 0, .int .i64 0, .bool false] 43 43
  have H1 := Aside0.mk h1
  have H2 := Aside0.mk h2
  have HB := Aside0.mk hb
  clear h1 h2 hb
  go_enter Try.func22, Try.ntmps22
  go_upto_region 1 with (fail)
  generalize (W.alloc (.cells #[.slice A 0 cc, .int .i64 (R : Int), .bool cl] 43)).alloc (.cells #[.slice none 0 0, .int .i64 0, .bool false] 43) = w2 at H1 H2 HB ⊢
  obtain ⟨g1, hg1⟩ : ∃ g1, W.heap.size = g1 := ⟨_, rfl⟩
  obtain ⟨g2, hg2⟩ : ∃ g2, W.heap.size + 1 = g2 := ⟨_, rfl⟩
  have HGG : Aside0 (W.heap.size ≤ g1 ∧ W.heap.size ≤ g2 ∧ g1 ≠ g2) := ⟨by omega⟩
  rw [hg2] at H2 ⊢
  rw [hg1] at H1 ⊢
  clear hg1 hg2
  have a0 : w2.cell? ⟨g1, 0, none⟩ = some (.slice A 0 cc) := (blk_cell H1.out 0).trans rfl
  have a1 : w2.cell? ⟨g1, 1, none⟩ = some (.int .i64 (R : Int)) := (blk_cell H1.out 1).trans rfl
  have a2 : w2.cell? ⟨g1, 2, none⟩ = some (.bool cl) := (blk_cell H1.out 2).trans rfl
  have b0 : w2.cell? ⟨g2, 0, none⟩ = some (.slice none 0 0) := (blk_cell H2.out 0).trans rfl
  have b1 : w2.cell? ⟨g2, 1, none⟩ = some (.int .i64 0) := (blk_cell H2.out 1).trans rfl
  have b2 : w2.cell? ⟨g2, 2, none⟩ = some (.bool false) := (blk_cell H2.out 2).trans rfl
  have fa : w2.frozen? ⟨g1, 0, none⟩ = false := blk_frozen H1.out 0
  have f0 : w2.frozen? ⟨g2, 0, none⟩ = false := blk_frozen H2.out 0
  have f1 : w2.frozen? ⟨g2, 1, none⟩ = false := blk_frozen H2.out 1
  have f2 : w2.frozen? ⟨g2, 2, none⟩ = false := blk_frozen H2.out 2
  go_wp2
  refine bodyPost_ret (results_ctt rfl _ _ g2 43 #[.slice A 0 cc, .int .i64 (R : Int), .bool cl] (0, 0) _ rfl (put3 H2.out) Try.underlying43 rfl info43) rfl ?_
  exact ⟨rfl, below3 HB.out HGG.out.2.1⟩
theorem refTake_yes (R : Nat) (cl : Bool) (x : Int) (h : RO W B v (x :: xs)) (hB : B ≤ W.heap.size) (hx : xs.length ≤ 1024) : Calls Try.prog 22 #[.agg #[v, .int .i64 (R : Int), .bool cl]] W fun e w' => ∃ v', e = .returned (.tuple #[.agg #[v', .int .i64 (R : Int), .bool cl], .int .i64 x, .bool true]) ∧ RO w' B v' xs ∧ Below W.heap.size W w' := by
  obtain ⟨A, cc, rfl, hl, hC, hA⟩ := h
  rw [List.length_cons] at hl hC ⊢
  obtain ⟨A1, hcut, hd⟩ := cut_drop A (xs.length + 1) cc 1 (by omega) (List.length_cons ..) hl hC hA
  rw [show (x :: xs).drop 1 = xs from rfl, show xs.length + 1 - 1 = xs.length by omega] at hd
  simp only [show xs.length + 1 - 1 = xs.length by omega, show ((1 : Nat) : Int) = 1 from rfl] at hcut
  have HD := Aside0.mk hd
  have HC := Aside0.mk hC
  clear hC hA hl hd
  obtain ⟨h1, h2, hb⟩ := two_new W #[.slice A (xs.length + 1) cc, .int .i64 (R : Int), .bool cl] #[.slice none 0 0, .int .i64 0, .bool false] 43 43
  have H1 := Aside0.mk h1
  have H2 := Aside0.mk h2
  have HB := Aside0.mk hb
  clear h1 h2 hb
  go_enter Try.func22, Try.ntmps22
  go_upto_region 1 with (fail)
  generalize (W.alloc (.cells #[.slice A (xs.length + 1) cc, .int .i64 (R : Int), .bool cl] 43)).alloc (.cells #[.slice none 0 0, .int .i64 0, .bool false] 43) = w2 at H1 H2 HB ⊢
  obtain ⟨g1, hg1⟩ : ∃ g1, W.heap.size = g1 := ⟨_, rfl⟩
  obtain ⟨g2, hg2⟩ : ∃ g2, W.heap.size + 1 = g2 := ⟨_, rfl⟩
  have HGG : Aside0 (W.heap.size ≤ g1 ∧ W.heap.size ≤ g2 ∧ g1 ≠ g2) := ⟨by omega⟩
  rw [hg2] at H2 ⊢
  rw [hg1] at H1 ⊢
  clear hg1 hg2
  have a0 : w2.cell? ⟨g1, 0, none⟩ = some (.slice A (xs.length + 1) cc) := (blk_cell H1.out 0).trans rfl
  have a1 : w2.cell? ⟨g1, 1, none⟩ = some (.int .i64 (R : Int)) := (blk_cell H1.out 1).trans rfl
  have a2 : w2.cell? ⟨g1, 2, none⟩ = some (.bool cl) := (blk_cell H1.out 2).trans rfl
  have b0 : w2.cell? ⟨g2, 0, none⟩ = some (.slice none 0 0) := (blk_cell H2.out 0).trans rfl
  have b1 : w2.cell? ⟨g2, 1, none⟩ = some (.int .i64 0) := (blk_cell H2.out 1).trans rfl
  have b2 : w2.cell? ⟨g2, 2, none⟩ = some (.bool false) := (blk_cell H2.out 2).trans rfl
  have fa : w2.frozen? ⟨g1, 0, none⟩ = false := blk_frozen H1.out 0
  have f0 : w2.frozen? ⟨g2, 0, none⟩ = false := blk_frozen H2.out 0
  have f1 : w2.frozen? ⟨g2, 1, none⟩ = false := blk_frozen H2.out 1
  have f2 : w2.frozen? ⟨g2, 2, none⟩ = false := blk_frozen H2.out 2
  obtain ⟨ad, ea, he⟩ := Kd.at_int (Kd.C_below HC.out HB.out) 0 (by omega) (by omega)
  subst ea
  have he' : w2.cell? ad = some (.int .i64 x) := by simpa [rd, Addr.add] using he
  have e1 : ((xs.length : Int) + 1 == 0) = false := beq_eq_false_iff_ne.mpr (by omega)
  have e2 : ((0 : Int) < (xs.length : Int) + 1) = True := eq_true (by omega)
  clear he
  go_upto_region 5 with (fail)
  have H18 : Aside0 ((w2.setCell ⟨g1, 0, none⟩ (.slice A1 xs.length (cc - 1))).heap[g1]? = some (.cells #[.slice A1 xs.length (cc - 1), .int .i64 (R : Int), .bool cl] 43 (0, 0))) := ⟨blk_put H1.out 0 _ rfl⟩
  have H28 : Aside0 ((w2.setCell ⟨g1, 0, none⟩ (.slice A1 xs.length (cc - 1))).heap[g2]? = some (.cells #[.slice none 0 0, .int .i64 0, .bool false] 43 (0, 0))) := ⟨blk_far H2.out (fun e => HGG.out.2.2 e.symm) _⟩
  have HB8 : Aside0 (Below W.heap.size W (w2.setCell ⟨g1, 0, none⟩ (.slice A1 xs.length (cc - 1)))) := ⟨HB.out.setCell HGG.out.1 _⟩
  clear HB H1 H2 a0 a1 a2 b0 b1 b2 fa f0 f1 f2 hcut he' e1 e2
  generalize w2.setCell ⟨g1, 0, none⟩ (.slice A1 xs.length (cc - 1)) = w8 at H18 H28 HB8 ⊢
  have a0 : w8.cell? ⟨g1, 0, none⟩ = some (.slice A1 xs.length (cc - 1)) := (blk_cell H18.out 0).trans rfl
  have a1 : w8.cell? ⟨g1, 1, none⟩ = some (.int .i64 (R : Int)) := (blk_cell H18.out 1).trans rfl
  have a2 : w8.cell? ⟨g1, 2, none⟩ = some (.bool cl) := (blk_cell H18.out 2).trans rfl
  have b0 : w8.cell? ⟨g2, 0, none⟩ = some (.slice none 0 0) := (blk_cell H28.out 0).trans rfl
  have b1 : w8.cell? ⟨g2, 1, none⟩ = some (.int .i64 0) := (blk_cell H28.out 1).trans rfl
  have b2 : w8.cell? ⟨g2, 2, none⟩ = some (.bool false) := (blk_cell H28.out 2).trans rfl
  have fa : w8.frozen? ⟨g1, 0, none⟩ = false := blk_frozen H18.out 0
  have f0 : w8.frozen? ⟨g2, 0, none⟩ = false := blk_frozen H28.out 0
  have f1 : w8.frozen? ⟨g2, 1, none⟩ = false := blk_frozen H28.out 1
  have f2 : w8.frozen? ⟨g2, 2, none⟩ = false := blk_frozen H28.out 2
  go_wp2
  refine bodyPost_ret (results_ctt rfl _ _ g2 43 #[.slice A1 xs.length (cc - 1), .int .i64 (R : Int), .bool cl] (0, 0) _ rfl (put3 H28.out) Try.underlying43 rfl info43) rfl ?_
  have hb9 := below3 (a' := .slice A1 xs.length (cc - 1)) (b' := .int .i64 (R : Int)) (c' := .bool cl) HB8.out HGG.out.2.1
  exact ⟨_, rfl, HD.out.below hb9, hb9⟩
theorem refDrain_a (R : Nat) (cl : Bool) (most : Int) (hm : most < 0) (h : RO W B v xs) (hx : xs.length ≤ 1024) : Calls Try.prog 23 #[.agg #[v, .int .i64 (R : Int), .bool cl], .int .i64 most] W fun e w' => ∃ v' vo, e = .returned (.tuple #[.agg #[v', .int .i64 (R : Int), .bool cl], vo]) ∧ RO w' B v' (xs.drop 0) ∧ RO w' B vo (xs.take 0) ∧ Below W.heap.size W w' := by
  obtain ⟨A, cc, rfl, hl, hC, hA⟩ := h
  obtain ⟨A1, hcut1, hd1⟩ := cut_drop A xs.length cc 0 (by omega) rfl hl hC hA
  obtain ⟨hcut2, hd2⟩ := cut_take A xs.length cc 0 (by omega) rfl hl hC hA
  simp only [show ((0 : Nat) : Int) = 0 from rfl] at hcut1 hcut2
  have HD1 := Aside0.mk hd1
  have HD2 := Aside0.mk hd2
  have e1 : decide (most < (xs.length : Int)) = true := decide_eq_true (by omega)
  have e2 : (most < (xs.length : Int)) = True := eq_true (by omega)
  have e3 : decide (most < 0) = true := decide_eq_true hm
  have e4 : (most < 0) = True := eq_true hm
  clear hm
  clear hC hA hl hd1 hd2 hx
  obtain ⟨h1, h2, hb⟩ := two_new W #[.slice A xs.length cc, .int .i64 (R : Int), .bool cl] #[.slice none 0 0, .int .i64 0, .bool false] 43 43
  have H1 := Aside0.mk h1
  have H2 := Aside0.mk h2
  have HB := Aside0.mk hb
  clear h1 h2 hb
  go_enter Try.func23, Try.ntmps23
  go_upto_region 1 with (fail)
  generalize (W.alloc (.cells #[.slice A xs.length cc, .int .i64 (R : Int), .bool cl] 43)).alloc (.cells #[.slice none 0 0, .int .i64 0, .bool false] 43) = w2 at H1 H2 HB ⊢
  obtain ⟨g1, hg1⟩ : ∃ g1, W.heap.size = g1 := ⟨_, rfl⟩
  obtain ⟨g2, hg2⟩ : ∃ g2, W.heap.size + 1 = g2 := ⟨_, rfl⟩
  have HGG : Aside0 (W.heap.size ≤ g1 ∧ W.heap.size ≤ g2 ∧ g1 ≠ g2) := ⟨by omega⟩
  rw [hg2] at H2 ⊢
  rw [hg1] at H1 ⊢
  clear hg1 hg2
  have a0 : w2.cell? ⟨g1, 0, none⟩ = some (.slice A xs.length cc) := (blk_cell H1.out 0).trans rfl
  have a1 : w2.cell? ⟨g1, 1, none⟩ = some (.int .i64 (R : Int)) := (blk_cell H1.out 1).trans rfl
  have a2 : w2.cell? ⟨g1, 2, none⟩ = some (.bool cl) := (blk_cell H1.out 2).trans rfl
  have b0 : w2.cell? ⟨g2, 0, none⟩ = some (.slice none 0 0) := (blk_cell H2.out 0).trans rfl
  have b1 : w2.cell? ⟨g2, 1, none⟩ = some (.int .i64 0) := (blk_cell H2.out 1).trans rfl
  have b2 : w2.cell? ⟨g2, 2, none⟩ = some (.bool false) := (blk_cell H2.out 2).trans rfl
  have fa : w2.frozen? ⟨g1, 0, none⟩ = false := blk_frozen H1.out 0
  have f0 : w2.frozen? ⟨g2, 0, none⟩ = false := blk_frozen H2.out 0
  have f1 : w2.frozen? ⟨g2, 1, none⟩ = false := blk_frozen H2.out 1
  have f2 : w2.frozen? ⟨g2, 2, none⟩ = false := blk_frozen H2.out 2
  generalize xs.length - 0 = L1 at hcut1 HD1
  generalize cc - 0 = c1 at hcut1 HD1
  go_upto_region 8 with (fail)
  have H18 : Aside0 ((w2.setCell ⟨g1, 0, none⟩ (.slice A1 L1 c1)).heap[g1]? = some (.cells #[.slice A1 L1 c1, .int .i64 (R : Int), .bool cl] 43 (0, 0))) := ⟨blk_put H1.out 0 _ rfl⟩
  have H28 : Aside0 ((w2.setCell ⟨g1, 0, none⟩ (.slice A1 L1 c1)).heap[g2]? = some (.cells #[.slice none 0 0, .int .i64 0, .bool false] 43 (0, 0))) := ⟨blk_far H2.out (fun e => HGG.out.2.2 e.symm) _⟩
  have HB8 : Aside0 (Below W.heap.size W (w2.setCell ⟨g1, 0, none⟩ (.slice A1 L1 c1))) := ⟨HB.out.setCell HGG.out.1 _⟩
  clear HB H1 H2 a0 a1 a2 b0 b1 b2 fa f0 f1 f2 hcut1 hcut2
  generalize w2.setCell ⟨g1, 0, none⟩ (.slice A1 L1 c1) = w8 at H18 H28 HB8 ⊢
  have a0 : w8.cell? ⟨g1, 0, none⟩ = some (.slice A1 L1 c1) := (blk_cell H18.out 0).trans rfl
  have a1 : w8.cell? ⟨g1, 1, none⟩ = some (.int .i64 (R : Int)) := (blk_cell H18.out 1).trans rfl
  have a2 : w8.cell? ⟨g1, 2, none⟩ = some (.bool cl) := (blk_cell H18.out 2).trans rfl
  have b0 : w8.cell? ⟨g2, 0, none⟩ = some (.slice none 0 0) := (blk_cell H28.out 0).trans rfl
  have b1 : w8.cell? ⟨g2, 1, none⟩ = some (.int .i64 0) := (blk_cell H28.out 1).trans rfl
  have b2 : w8.cell? ⟨g2, 2, none⟩ = some (.bool false) := (blk_cell H28.out 2).trans rfl
  have fa : w8.frozen? ⟨g1, 0, none⟩ = false := blk_frozen H18.out 0
  have f0 : w8.frozen? ⟨g2, 0, none⟩ = false := blk_frozen H28.out 0
  have f1 : w8.frozen? ⟨g2, 1, none⟩ = false := blk_frozen H28.out 1
  have f2 : w8.frozen? ⟨g2, 2, none⟩ = false := blk_frozen H28.out 2
  go_wp2
  refine bodyPost_ret (results_ct rfl _ _ g2 43 #[.slice A1 L1 c1, .int .i64 (R : Int), .bool cl] (0, 0) _ rfl (put3 H28.out) Try.underlying43 rfl info43) rfl ?_
  have hb9 := below3 (a' := .slice A1 L1 c1) (b' := .int .i64 (R : Int)) (c' := .bool cl) HB8.out HGG.out.2.1
  exact ⟨_, _, rfl, HD1.out.below hb9, HD2.out.below hb9, hb9⟩
theorem refDrain_b (R : Nat) (cl : Bool) (M : Nat) (hm : M < xs.length) (h : RO W B v xs) (hx : xs.length ≤ 1024) : Calls Try.prog 23 #[.agg #[v, .int .i64 (R : Int), .bool cl], .int .i64 (M : Int)] W fun e w' => ∃ v' vo, e = .returned (.tuple #[.agg #[v', .int .i64 (R : Int), .bool cl], vo]) ∧ RO w' B v' (xs.drop M) ∧ RO w' B vo (xs.take M) ∧ Below W.heap.size W w' := by
  obtain ⟨A, cc, rfl, hl, hC, hA⟩ := h
  obtain ⟨A1, hcut1, hd1⟩ := cut_drop A xs.length cc M (by omega) rfl hl hC hA
  obtain ⟨hcut2, hd2⟩ := cut_take A xs.length cc M (by omega) rfl hl hC hA
  have HD1 := Aside0.mk hd1
  have HD2 := Aside0.mk hd2
  have e1 : decide ((M : Int) < (xs.length : Int)) = true := decide_eq_true (by omega)
  have e2 : ((M : Int) < (xs.length : Int)) = True := eq_true (by omega)
  have e5 : (M < xs.length) = True := eq_true hm
  have e3 : decide ((M : Int) < 0) = false := decide_eq_false (by omega)
  have e4 : ((M : Int) < 0) = False := eq_false (by omega)
  clear hm
  clear hC hA hl hd1 hd2 hx
  obtain ⟨h1, h2, hb⟩ := two_new W #[.slice A xs.length cc, .int .i64 (R : Int), .bool cl] #[.slice none 0 0, .int .i64 0, .bool false] 43 43
  have H1 := Aside0.mk h1
  have H2 := Aside0.mk h2
  have HB := Aside0.mk hb
  clear h1 h2 hb
  go_enter Try.func23, Try.ntmps23
  go_upto_region 1 with (fail)
  generalize (W.alloc (.cells #[.slice A xs.length cc, .int .i64 (R : Int), .bool cl] 43)).alloc (.cells #[.slice none 0 0, .int .i64 0, .bool false] 43) = w2 at H1 H2 HB ⊢
  obtain ⟨g1, hg1⟩ : ∃ g1, W.heap.size = g1 := ⟨_, rfl⟩
  obtain ⟨g2, hg2⟩ : ∃ g2, W.heap.size + 1 = g2 := ⟨_, rfl⟩
  have HGG : Aside0 (W.heap.size ≤ g1 ∧ W.heap.size ≤ g2 ∧ g1 ≠ g2) := ⟨by omega⟩
  rw [hg2] at H2 ⊢
  rw [hg1] at H1 ⊢
  clear hg1 hg2
  have a0 : w2.cell? ⟨g1, 0, none⟩ = some (.slice A xs.length cc) := (blk_cell H1.out 0).trans rfl
  have a1 : w2.cell? ⟨g1, 1, none⟩ = some (.int .i64 (R : Int)) := (blk_cell H1.out 1).trans rfl
  have a2 : w2.cell? ⟨g1, 2, none⟩ = some (.bool cl) := (blk_cell H1.out 2).trans rfl
  have b0 : w2.cell? ⟨g2, 0, none⟩ = some (.slice none 0 0) := (blk_cell H2.out 0).trans rfl
  have b1 : w2.cell? ⟨g2, 1, none⟩ = some (.int .i64 0) := (blk_cell H2.out 1).trans rfl
  have b2 : w2.cell? ⟨g2, 2, none⟩ = some (.bool false) := (blk_cell H2.out 2).trans rfl
  have fa : w2.frozen? ⟨g1, 0, none⟩ = false := blk_frozen H1.out 0
  have f0 : w2.frozen? ⟨g2, 0, none⟩ = false := blk_frozen H2.out 0
  have f1 : w2.frozen? ⟨g2, 1, none⟩ = false := blk_frozen H2.out 1
  have f2 : w2.frozen? ⟨g2, 2, none⟩ = false := blk_frozen H2.out 2
  generalize xs.length - M = L1 at hcut1 HD1
  generalize cc - M = c1 at hcut1 HD1
  go_upto_region 8 with (fail)
  have H18 : Aside0 ((w2.setCell ⟨g1, 0, none⟩ (.slice A1 L1 c1)).heap[g1]? = some (.cells #[.slice A1 L1 c1, .int .i64 (R : Int), .bool cl] 43 (0, 0))) := ⟨blk_put H1.out 0 _ rfl⟩
  have H28 : Aside0 ((w2.setCell ⟨g1, 0, none⟩ (.slice A1 L1 c1)).heap[g2]? = some (.cells #[.slice none 0 0, .int .i64 0, .bool false] 43 (0, 0))) := ⟨blk_far H2.out (fun e => HGG.out.2.2 e.symm) _⟩
  have HB8 : Aside0 (Below W.heap.size W (w2.setCell ⟨g1, 0, none⟩ (.slice A1 L1 c1))) := ⟨HB.out.setCell HGG.out.1 _⟩
  clear HB H1 H2 a0 a1 a2 b0 b1 b2 fa f0 f1 f2 hcut1 hcut2
  generalize w2.setCell ⟨g1, 0, none⟩ (.slice A1 L1 c1) = w8 at H18 H28 HB8 ⊢
  have a0 : w8.cell? ⟨g1, 0, none⟩ = some (.slice A1 L1 c1) := (blk_cell H18.out 0).trans rfl
  have a1 : w8.cell? ⟨g1, 1, none⟩ = some (.int .i64 (R : Int)) := (blk_cell H18.out 1).trans rfl
  have a2 : w8.cell? ⟨g1, 2, none⟩ = some (.bool cl) := (blk_cell H18.out 2).trans rfl
  have b0 : w8.cell? ⟨g2, 0, none⟩ = some (.slice none 0 0) := (blk_cell H28.out 0).trans rfl
  have b1 : w8.cell? ⟨g2, 1, none⟩ = some (.int .i64 0) := (blk_cell H28.out 1).trans rfl
  have b2 : w8.cell? ⟨g2, 2, none⟩ = some (.bool false) := (blk_cell H28.out 2).trans rfl
  have fa : w8.frozen? ⟨g1, 0, none⟩ = false := blk_frozen H18.out 0
  have f0 : w8.frozen? ⟨g2, 0, none⟩ = false := blk_frozen H28.out 0
  have f1 : w8.frozen? ⟨g2, 1, none⟩ = false := blk_frozen H28.out 1
  have f2 : w8.frozen? ⟨g2, 2, none⟩ = false := blk_frozen H28.out 2
  go_wp2
  refine bodyPost_ret (results_ct rfl _ _ g2 43 #[.slice A1 L1 c1, .int .i64 (R : Int), .bool cl] (0, 0) _ rfl (put3 H28.out) Try.underlying43 rfl info43) rfl ?_
  have hb9 := below3 (a' := .slice A1 L1 c1) (b' := .int .i64 (R : Int)) (c' := .bool cl) HB8.out HGG.out.2.1
  exact ⟨_, _, rfl, HD1.out.below hb9, HD2.out.below hb9, hb9⟩
theorem refDrain_c (R : Nat) (cl : Bool) (most : Int) (hm : (xs.length : Int) ≤ most) (h : RO W B v xs) (hx : xs.length ≤ 1024) : Calls Try.prog 23 #[.agg #[v, .int .i64 (R : Int), .bool cl], .int .i64 most] W fun e w' => ∃ v' vo, e = .returned (.tuple #[.agg #[v', .int .i64 (R : Int), .bool cl], vo]) ∧ RO w' B v' (xs.drop xs.length) ∧ RO w' B vo (xs.take xs.length) ∧ Below W.heap.size W w' := by
  obtain ⟨A, cc, rfl, hl, hC, hA⟩ := h
  obtain ⟨A1, hcut1, hd1⟩ := cut_drop A xs.length cc xs.length (by omega) rfl hl hC hA
  obtain ⟨hcut2, hd2⟩ := cut_take A xs.length cc xs.length (by omega) rfl hl hC hA
  have HD1 := Aside0.mk hd1
  have HD2 := Aside0.mk hd2
  have e1 : decide (most < (xs.length : Int)) = false := decide_eq_false (by omega)
  have e2 : (most < (xs.length : Int)) = False := eq_false (by omega)
  have e3 : decide ((xs.length : Int) < 0) = false := decide_eq_false (by omega)
  have e4 : ((xs.length : Int) < 0) = False := eq_false (by omega)
  clear hm
  clear hC hA hl hd1 hd2 hx
  obtain ⟨h1, h2, hb⟩ := two_new W #[.slice A xs.length cc, .int .i64 (R : Int), .bool cl] #[.slice none 0 0, .int .i64 0, .bool false] 43 43
  have H1 := Aside0.mk h1
  have H2 := Aside0.mk h2
  have HB := Aside0.mk hb
  clear h1 h2 hb
  go_enter Try.func23, Try.ntmps23
  go_upto_region 1 with (fail)
  generalize (W.alloc (.cells #[.slice A xs.length cc, .int .i64 (R : Int), .bool cl] 43)).alloc (.cells #[.slice none 0 0, .int .i64 0, .bool false] 43) = w2 at H1 H2 HB ⊢
  obtain ⟨g1, hg1⟩ : ∃ g1, W.heap.size = g1 := ⟨_, rfl⟩
  obtain ⟨g2, hg2⟩ : ∃ g2, W.heap.size + 1 = g2 := ⟨_, rfl⟩
  have HGG : Aside0 (W.heap.size ≤ g1 ∧ W.heap.size ≤ g2 ∧ g1 ≠ g2) := ⟨by omega⟩
  rw [hg2] at H2 ⊢
  rw [hg1] at H1 ⊢
  clear hg1 hg2
  have a0 : w2.cell? ⟨g1, 0, none⟩ = some (.slice A xs.length cc) := (blk_cell H1.out 0).trans rfl
  have a1 : w2.cell? ⟨g1, 1, none⟩ = some (.int .i64 (R : Int)) := (blk_cell H1.out 1).trans rfl
  have a2 : w2.cell? ⟨g1, 2, none⟩ = some (.bool cl) := (blk_cell H1.out 2).trans rfl
  have b0 : w2.cell? ⟨g2, 0, none⟩ = some (.slice none 0 0) := (blk_cell H2.out 0).trans rfl
  have b1 : w2.cell? ⟨g2, 1, none⟩ = some (.int .i64 0) := (blk_cell H2.out 1).trans rfl
  have b2 : w2.cell? ⟨g2, 2, none⟩ = some (.bool false) := (blk_cell H2.out 2).trans rfl
  have fa : w2.frozen? ⟨g1, 0, none⟩ = false := blk_frozen H1.out 0
  have f0 : w2.frozen? ⟨g2, 0, none⟩ = false := blk_frozen H2.out 0
  have f1 : w2.frozen? ⟨g2, 1, none⟩ = false := blk_frozen H2.out 1
  have f2 : w2.frozen? ⟨g2, 2, none⟩ = false := blk_frozen H2.out 2
  generalize xs.length - xs.length = L1 at hcut1 HD1
  generalize cc - xs.length = c1 at hcut1 HD1
  go_upto_region 8 with (fail)
  have H18 : Aside0 ((w2.setCell ⟨g1, 0, none⟩ (.slice A1 L1 c1)).heap[g1]? = some (.cells #[.slice A1 L1 c1, .int .i64 (R : Int), .bool cl] 43 (0, 0))) := ⟨blk_put H1.out 0 _ rfl⟩
  have H28 : Aside0 ((w2.setCell ⟨g1, 0, none⟩ (.slice A1 L1 c1)).heap[g2]? = some (.cells #[.slice none 0 0, .int .i64 0, .bool false] 43 (0, 0))) := ⟨blk_far H2.out (fun e => HGG.out.2.2 e.symm) _⟩
  have HB8 : Aside0 (Below W.heap.size W (w2.setCell ⟨g1, 0, none⟩ (.slice A1 L1 c1))) := ⟨HB.out.setCell HGG.out.1 _⟩
  clear HB H1 H2 a0 a1 a2 b0 b1 b2 fa f0 f1 f2 hcut1 hcut2
  generalize w2.setCell ⟨g1, 0, none⟩ (.slice A1 L1 c1) = w8 at H18 H28 HB8 ⊢
  have a0 : w8.cell? ⟨g1, 0, none⟩ = some (.slice A1 L1 c1) := (blk_cell H18.out 0).trans rfl
  have a1 : w8.cell? ⟨g1, 1, none⟩ = some (.int .i64 (R : Int)) := (blk_cell H18.out 1).trans rfl
  have a2 : w8.cell? ⟨g1, 2, none⟩ = some (.bool cl) := (blk_cell H18.out 2).trans rfl
  have b0 : w8.cell? ⟨g2, 0, none⟩ = some (.slice none 0 0) := (blk_cell H28.out 0).trans rfl
  have b1 : w8.cell? ⟨g2, 1, none⟩ = some (.int .i64 0) := (blk_cell H28.out 1).trans rfl
  have b2 : w8.cell? ⟨g2, 2, none⟩ = some (.bool false) := (blk_cell H28.out 2).trans rfl
  have fa : w8.frozen? ⟨g1, 0, none⟩ = false := blk_frozen H18.out 0
  have f0 : w8.frozen? ⟨g2, 0, none⟩ = false := blk_frozen H28.out 0
  have f1 : w8.frozen? ⟨g2, 1, none⟩ = false := blk_frozen H28.out 1
  have f2 : w8.frozen? ⟨g2, 2, none⟩ = false := blk_frozen H28.out 2
  go_wp2
  refine bodyPost_ret (results_ct rfl _ _ g2 43 #[.slice A1 L1 c1, .int .i64 (R : Int), .bool cl] (0, 0) _ rfl (put3 H28.out) Try.underlying43 rfl info43) rfl ?_
  have hb9 := below3 (a' := .slice A1 L1 c1) (b' := .int .i64 (R : Int)) (c' := .bool cl) HB8.out HGG.out.2.1
  exact ⟨_, _, rfl, HD1.out.below hb9, HD2.out.below hb9, hb9⟩
theorem refDrain_calls (R : Nat) (cl : Bool) (most : Int) (h : RO W B v xs) (hx : xs.length ≤ 1024) : Calls Try.prog 23 #[.agg #[v, .int .i64 (R : Int), .bool cl], .int .i64 most] W fun e w' => ∃ v' vo, e = .returned (.tuple #[.agg #[v', .int .i64 (R : Int), .bool cl], vo]) ∧ RO w' B v' (xs.drop most.toNat) ∧ RO w' B vo (xs.take most.toNat) ∧ Below W.heap.size W w' := by
  by_cases h1 : most < 0
  · have e : most.toNat = 0 := by omega
    rw [e]; exact refDrain_a R cl most h1 h hx
  · obtain ⟨M, rfl⟩ : ∃ M : Nat, most = (M : Int) := ⟨most.toNat, by omega⟩
    by_cases h2 : M < xs.length
    · exact refDrain_b R cl M h2 h hx
    · have e1 : xs.drop (M : Int).toNat = xs.drop xs.length := by rw [List.drop_eq_nil_of_le (by omega), List.drop_eq_nil_of_le (by omega)]
      have e2 : xs.take (M : Int).toNat = xs.take xs.length := by rw [List.take_of_length_le (by omega), List.take_of_length_le (by omega)]
      rw [e1, e2]; exact refDrain_c R cl (M : Int) (by omega) h hx
end
end Go.Proofs.Ytkohkcnajddcoaa.QN
