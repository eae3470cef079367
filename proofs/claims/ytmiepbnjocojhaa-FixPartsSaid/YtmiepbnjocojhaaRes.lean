/- The machine's side of fix.Resolve and what it calls: each call gives what a plain Lean function of lists says; no condition but the lengths' bound. -/
import Derived.Test.YtmiepbnjocojhaaQN0
import Derived.Test.YtmiepbnjocojhaaOwn
namespace Go.Proofs.Ytmiepbnjocojhaa.QN
open Go.RowKit Go.Proofs.YtmiepbnjocojhaaW.PrintWords Go.Proofs.YtmiepbnjocojhaaW.PrintLast Go.Proofs.YtmiepbnjocojhaaW.PrintMore
set_option linter.unusedVariables false
set_option linter.unusedSimpArgs false

def tab_f21.T0 : Bool × List (List Nat × List Nat) := (true, [([], []), ([0], [0]), ([1], [1]), ([2], [2]), ([], []), ([4], [4]), ([5], [5]), ([6], [6]), ([7], [7]), ([8], [8]), ([3, 9], [3, 9]), ([10], [10]), ([11, 0, 1, 2, 3, 4, 5, 6, 7, 8, 9, 10, 11], [11])])
def tab_f21.B0 : List Nat := [0, 1, 3, 7, 0, 16, 48, 112, 240, 496, 1023, 2047, 4095]
theorem tab_f21.tab0 : rtab .any (opsOf Try.f21 0) = tab_f21.T0 := by kernel_rfl
theorem tab_f21.bits0 : waitsOk tab_f21.T0.2 tab_f21.B0 = true := by kernel_rfl
def tab_f21.T1 : Bool × List (List Nat × List Nat) := (true, [([], []), ([], []), ([1], [1]), ([2], [2]), ([3], [3]), ([], []), ([5], [5]), ([6], [6]), ([7], [7]), ([8], [8]), ([9], [9]), ([4, 10], [4, 10]), ([0, 0, 1, 2, 3, 4, 5, 6, 7, 8, 9, 10, 11], [0]), ([12, 0, 1, 2, 3, 4, 5, 6, 7, 8, 9, 10, 11], [12]), ([13, 11, 0, 1, 2, 3, 4, 5, 6, 7, 8, 9, 10, 11], [11, 13])])
def tab_f21.B1 : List Nat := [0, 0, 2, 6, 14, 0, 32, 96, 224, 480, 992, 2046, 4095, 8191, 16383]
theorem tab_f21.tab1 : rtab .any (opsOf Try.f21 1) = tab_f21.T1 := by kernel_rfl
theorem tab_f21.bits1 : waitsOk tab_f21.T1.2 tab_f21.B1 = true := by kernel_rfl
def tab_f21.T3 : Bool × List (List Nat × List Nat) := (true, [([], []), ([0], [0]), ([1], [1]), ([2], [2]), ([], []), ([4], [4]), ([3, 5], [3, 5]), ([6], [6]), ([7], [7]), ([], []), ([9], [9]), ([10], [10]), ([11], [11]), ([], []), ([13], [13]), ([12, 14], [12, 14]), ([15], [15]), ([16], [16]), ([8, 17], [8, 17]), ([], []), ([19, 18, 0, 1, 2, 3, 4, 5, 6, 7, 8, 9, 10, 11, 12, 13, 14, 15, 16, 17, 18, 19], [18, 19])])
def tab_f21.B3 : List Nat := [0, 1, 3, 7, 0, 16, 63, 127, 255, 0, 512, 1536, 3584, 0, 8192, 32256, 65024, 130560, 262143, 0, 1048575]
theorem tab_f21.tab3 : rtab .any (opsOf Try.f21 3) = tab_f21.T3 := by kernel_rfl
theorem tab_f21.bits3 : waitsOk tab_f21.T3.2 tab_f21.B3 = true := by kernel_rfl
def tab_f21.T4 : Bool × List (List Nat × List Nat) := (true, [([], []), ([], []), ([1], [1]), ([2], [2]), ([3], [3]), ([], []), ([5], [5]), ([4, 6], [4, 6]), ([], []), ([8], [8]), ([7, 9], [7, 9]), ([0, 0, 1, 2, 3, 4, 5, 6, 7, 8, 9, 10], [0]), ([11, 0, 1, 2, 3, 4, 5, 6, 7, 8, 9, 10], [11]), ([12, 10, 10, 0, 1, 2, 3, 4, 5, 6, 7, 8, 9, 10], [10, 12])])
def tab_f21.B4 : List Nat := [0, 0, 2, 6, 14, 0, 32, 126, 0, 256, 1022, 2047, 4095, 8191]
theorem tab_f21.tab4 : rtab .any (opsOf Try.f21 4) = tab_f21.T4 := by kernel_rfl
theorem tab_f21.bits4 : waitsOk tab_f21.T4.2 tab_f21.B4 = true := by kernel_rfl
def tab_f21.T5 : Bool × List (List Nat × List Nat) := (true, [([], []), ([0], [0]), ([1], [1]), ([2], [2]), ([], []), ([], []), ([3, 4, 0, 1, 2, 3, 4, 5], [3, 4]), ([6, 5, 0, 1, 2, 3, 4, 5], [5, 6])])
def tab_f21.B5 : List Nat := [0, 1, 3, 7, 0, 0, 63, 127]
theorem tab_f21.tab5 : rtab .any (opsOf Try.f21 5) = tab_f21.T5 := by kernel_rfl
theorem tab_f21.bits5 : waitsOk tab_f21.T5.2 tab_f21.B5 = true := by kernel_rfl

/-- Blocks of type 36 stay as they are. -/
def Keeps (w W : World) : Prop := ∀ (b : Nat) (cs : Array Value), w.heap[b]? = some (Obj.cells cs 36 (0, 0)) → W.heap[b]? = some (Obj.cells cs 36 (0, 0))
/-- What a grouping holds in memory: its block, and its own rows. -/
structure St (wS w0 W : World) (g : Nat) (v0 vw vd vo : Value) (ws : List Int) (ds os : List S32) : Prop where
  gb : W.heap[g]? = some (.cells #[v0, vw, vd, vo] 46 (0, 0))
  gl : w0.heap.size ≤ g
  hw : (Kd.int .i64).R 3 W w0.heap.size (fun _ => True) vw ws
  hd : k32.R 32 W w0.heap.size (fun k => some k ≠ vo.ownBlock) vd ds
  ho : k32.R 32 W w0.heap.size (fun k => some k ≠ vd.ownBlock) vo os
  bl : Below w0.heap.size w0 W
  kp : Keeps wS W
section
variable {wS w0 W W1 : World} {g : Nat} {v0 vw vd vo : Value} {ws : List Int} {ds os : List S32}
theorem St.below (h : St wS w0 W g v0 vw vd vo ws ds os) (hb : Below W.heap.size W W1) : St wS w0 W1 g v0 vw vd vo ws ds os :=
  ⟨blk_below h.gb hb, h.gl, Kd.R_below h.hw hb, Kd.R_below h.hd hb, Kd.R_below h.ho hb, below_then h.bl h.bl.size hb, fun b cs hc => blk_below (h.kp b cs hc) hb⟩
theorem St.drew (h : St wS w0 W g v0 vw vd vo ws ds os) : St wS w0 W.drew g v0 vw vd vo ws ds os := h.below (below_drew (Below.refl _ _))
theorem k32_E : ∀ q, q ∈ 32 :: k32.E → q ≠ 46 := by
  intro q hq
  have : q = 32 := by simpa [k32, Kd.iso, Kd.pair, Kd.int, Kd.scalar] using hq
  omega
theorem kint_E : ∀ q, q ∈ 3 :: (Kd.int .i64).E → q ≠ 46 := by
  intro q hq
  have : q = 3 := by simpa [Kd.int, Kd.scalar] using hq
  omega
theorem kint_32 : ∀ q, q ∈ 3 :: (Kd.int .i64).E → q ≠ 32 := by
  intro q hq
  have : q = 3 := by simpa [Kd.int, Kd.scalar] using hq
  omega
/-- The wait's header is stored. -/
theorem St.setW {vw' : Value} {ws' : List Int} (h : St wS w0 W g v0 vw vd vo ws ds os) (hw' : (Kd.int .i64).R 3 W w0.heap.size (fun _ => True) vw' ws') : St wS w0 (W.setCell ⟨g, 1, none⟩ vw') g v0 vw' vd vo ws' ds os :=
  ⟨blk_put h.gb 1 _ rfl, h.gl, Kd.R_set hw' h.gb kint_E 1 _, Kd.R_set h.hd h.gb k32_E 1 _, Kd.R_set h.ho h.gb k32_E 1 _, below_set h.bl h.gl, fun b cs hc => blk_far (h.kp b cs hc) (blk_ne (h.kp b cs hc) h.gb (by decide)) _⟩
theorem St.setD {vd' : Value} {ds' : List S32} (h : St wS w0 W g v0 vw vd vo ws ds os) (hd' : k32.R 32 W w0.heap.size (fun k => some k ≠ vo.ownBlock) vd' ds') (ho' : k32.R 32 W w0.heap.size (fun k => some k ≠ vd'.ownBlock) vo os) : St wS w0 (W.setCell ⟨g, 2, none⟩ vd') g v0 vw vd' vo ws ds' os :=
  ⟨blk_put h.gb 2 _ rfl, h.gl, Kd.R_set h.hw h.gb kint_E 2 _, Kd.R_set hd' h.gb k32_E 2 _, Kd.R_set ho' h.gb k32_E 2 _, below_set h.bl h.gl, fun b cs hc => blk_far (h.kp b cs hc) (blk_ne (h.kp b cs hc) h.gb (by decide)) _⟩
end

theorem St.appended {wS w0 W w7 : World} {g bd m cd : Nat} {v0 vw vo vd' : Value} {ws : List Int} {ds ds7 os : List S32} (h : St wS w0 W g v0 vw (.slice (some ⟨bd, 0, none⟩) m cd) vo ws ds os) (hb7 : Below w0.heap.size w0 w7)
    (hd7 : k32.R 32 w7 w0.heap.size (fun k => some k ≠ vo.ownBlock) vd' ds7) (hg7 : W.grownBy w7 (some bd)) (hat : vd'.ownBlock = some bd ∨ ∃ b, vd'.ownBlock = some b ∧ W.heap.size ≤ b) (h0 : 0 < ds.length) :
    w7.heap[g]? = some (.cells #[v0, vw, .slice (some ⟨bd, 0, none⟩) m cd, vo] 46 (0, 0)) ∧ St wS w0 (w7.setCell ⟨g, 2, none⟩ vd') g v0 vw vd' vo ws ds7 os := by
  have hne : some g ≠ some bd := Kd.R_ne h.hd h.gb (by decide)
  have gb7 := blk_grown h.gb hg7 hne
  have hw7 := Kd.R_over h.hw h.hd kint_32 hg7
  have ho7 := Kd.R_after (ok := fun _ => True) (v := .slice (some ⟨bd, 0, none⟩) m cd) (v1 := vd') (Kd.R_mono h.ho (fun k hk => ⟨trivial, hk⟩)) hg7 hat
  have ho7' := Kd.R_mono (ok' := fun k => some k ≠ vd'.ownBlock) ho7 (fun k hk => hk.2)
  exact ⟨gb7, ⟨blk_put gb7 2 _ rfl, h.gl, Kd.R_set hw7 gb7 kint_E 2 _, Kd.R_set hd7 gb7 k32_E 2 _, Kd.R_set ho7' gb7 k32_E 2 _, below_set hb7 h.gl, fun b cs hc => have h7 := blk_grown (h.kp b cs hc) hg7 (Kd.R_ne h.hd (h.kp b cs hc) (by decide)); blk_far h7 (blk_ne h7 gb7 (by decide)) _⟩⟩
theorem St.stored {wS w0 W : World} {g bo n co : Nat} {v0 vw vd : Value} {ws : List Int} {ds os : List S32} (h : St wS w0 W g v0 vw vd (.slice (some ⟨bo, 0, none⟩) n co) ws ds os) (i : Int) (h0 : 0 ≤ i) (h1 : i < n) (a b : Int) :
    St wS w0 ((W.setCell ⟨bo, i.toNat * 2, none⟩ (.int .i64 a)).setCell ⟨bo, i.toNat * 2 + 1, none⟩ (.int .i64 b)) g v0 vw vd (.slice (some ⟨bo, 0, none⟩) n co) ws ds (os.set i.toNat ⟨a, b⟩) := by
  obtain ⟨c, hcl, hM, hcc, _⟩ := Kd.R_elem h.ho z32 i h0 h1
  have hseg := Kd.R_seg h.ho i h0 h1 (seg := [.int .i64 a, .int .i64 b]) (j := 0) hcl hcc (show 2 ≤ 2 from by decide) (x' := (⟨a, b⟩ : S32)) (by obtain rfl := k32_openM hM; exact k32_mkM _ _ _ (⟨a, b⟩ : S32)) (okp := fun k => some k ≠ vd.ownBlock ∧ k ≠ bo) (fun _ hk => hk)
  have hne : g ≠ bo := by
    have := Kd.R_ne h.ho h.gb (by decide)
    intro e; apply this; rw [e]; rfl
  have hg : W.grownBy ((W.setCell ⟨bo, i.toNat * 2, none⟩ (.int .i64 a)).setCell ⟨bo, i.toNat * 2 + 1, none⟩ (.int .i64 b)) (some bo) := hseg.2
  have hbo : w0.heap.size ≤ bo := Kd.R_base h.ho bo rfl
  exact ⟨blk_grown h.gb hg (by intro e; injection e with e; exact hne e), h.gl, Kd.R_over h.hw h.ho kint_32 hg,
    Kd.R_grown h.hd hg (fun k hk => hk), hseg.1, below_set (below_set h.bl hbo) hbo, fun b cs hc => blk_grown (h.kp b cs hc) hg (Kd.R_ne h.ho (h.kp b cs hc) (by decide))⟩
theorem cell_up {w : World} {o : Obj} {a : Addr} {v : Value} (h : w.cell? a = some v) : (w.alloc o).cell? a = some v := (World.cell?_alloc_lt _ _ _ (World.block_lt_of_cell? _ _ h)).trans h
set_option maxHeartbeats 4000000 in
set_option maxRecDepth 100000 in
theorem reduce_calls (g : Nat) (v0 vw vd vo : Value) (ws : List Int) (i : Int) (ds : List S32) (x y : S32) (os : List S32) (wS w0 w : World)
    (h : St wS w0 w g v0 vw vd vo (ws ++ [i]) (ds ++ [x, y]) os) (hi0 : 0 ≤ i) (hi1 : i < os.length) (hbw : ws.length ≤ 5000) (hbd : ds.length ≤ 5000) (hbo : os.length ≤ 5000) :
    Calls Try.prog 21 #[.pointer (some ⟨g, 0, none⟩)] w fun e w' => e = .returned (.tuple #[]) ∧ ∃ vw' vd', St wS w0 w' g v0 vw' vd' vo ws (ds ++ [⟨x.f0, y.f1⟩]) (os.set i.toNat ⟨x.f0, y.f1⟩) := by
  obtain ⟨bw, cw, rfl, -, -, -⟩ := Kd.R_form h.hw (by simp)
  obtain ⟨bd, cd, rfl, -, -, -⟩ := Kd.R_form h.hd (by simp)
  obtain ⟨bo, co, rfl, -, -, -⟩ := Kd.R_form h.ho (by omega)
  have hwl : (ws ++ [i]).length = ws.length + 1 := by simp
  have hdl : (ds ++ [x, y]).length = ds.length + 2 := by simp
  rw [hwl, hdl] at h
  have hcw := (Kd.R_reads' h.hw).2.1
  have hcd := (Kd.R_reads' h.hd).2.1
  have HS := Aside0.mk h
  have hgc1 : w.cell? ⟨g, 1, none⟩ = some (.slice (some ⟨bw, 0, none⟩) (ws.length + 1) cw) := (blk_cell h.gb 1).trans rfl
  have hwc := (Kd.R_celln (0 : Int) h.hw (ws.length : Int) (by omega) (by omega)).1
  have hwc' : w.cell? ⟨bw, ws.length, none⟩ = some (.int .i64 i) := by
    rw [Int.toNat_natCast] at hwc
    rw [hwc]; simp [rdOf]
  clear hwc h
  have hwn : wrap64 (ws.length : Int) = (ws.length : Int) := by unfold wrap64; omega
  have hlt1 : ((ws.length : Int) < (ws.length : Int) + 1) = True := eq_true (by omega)
  have hcw' : (ws.length ≤ cw) = True := eq_true (by omega)
  clear hwl hdl hcw
  have HCD := Aside0.mk hcd
  clear hcd
  have HS1 := Aside0.mk HS.out.drew
  clear HS
  go_enter Try.func21, Try.ntmps21
  go_wp2
  refine start_ (n := 13) (S := fun w' => w'.cell? ⟨g, 1, none⟩ = some (.slice (some ⟨bw, 0, none⟩) (ws.length + 1) cw) ∧ w'.cell? ⟨bw, ws.length, none⟩ = some (.int .i64 i)) (ds := []) #[false, false, false, false, false, false, false, false, false, false, false, false, false] (by kernel_rfl) rfl rfl ⟨hgc1, hwc'⟩ (fun hHeld => ?_); refine with_tabW tab_f21.tab0 tab_f21.bits0 (fun HT_ HW_ => ?_)
  generalize w.drew = w1 at HS1 hHeld ⊢
  refine pure_ (i := 0) (N := some 5) (v := ?_) (a' := ?_) #[true, false, false, false, false, false, false, false, false, false, false, false, false] rfl rfl (any_of HT_.out (by kernel_rfl)) (fun _ _ _ h => h) (Or.inl ⟨by rfl, ?_⟩) ?_ ?_
  rotate_left
  · intro w'
    go_simp
    with_reducible rfl
  rotate_left
  · simp only [Act.put, List.setIfInBounds_toArray, List.set_cons_zero, List.set_cons_succ, i64_w, i32_w]
    rfl
  refine pure_ (i := 1) (N := some 6) (v := ?_) (a' := ?_) #[true, true, false, false, false, false, false, false, false, false, false, false, false] rfl rfl (any_of HT_.out (by kernel_rfl)) (fun _ _ _ h => h) (Or.inl ⟨by rfl, ?_⟩) ?_ ?_
  rotate_left
  · intro w'
    go_simp
    with_reducible rfl
  rotate_left
  · simp only [Act.put, List.setIfInBounds_toArray, List.set_cons_zero, List.set_cons_succ, i64_w, i32_w]
    rfl
  refine pure_ (i := 2) (N := some 7) (v := ?_) (a' := ?_) #[true, true, true, false, false, false, false, false, false, false, false, false, false] rfl rfl (any_of HT_.out (by kernel_rfl)) (fun _ _ _ h => h) (Or.inl ⟨by rfl, ?_⟩) ?_ ?_
  rotate_left
  · intro w'
    go_simp
    with_reducible rfl
  rotate_left
  · simp only [Act.put, List.setIfInBounds_toArray, List.set_cons_zero, List.set_cons_succ, i64_w, i32_w]
    rfl
  refine pure_ (i := 4) (N := some 9) (v := ?_) (a' := ?_) #[true, true, true, false, true, false, false, false, false, false, false, false, false] rfl rfl (any_of HT_.out (by kernel_rfl)) (fun _ _ _ h => h) (Or.inl ⟨by rfl, ?_⟩) ?_ ?_
  rotate_left
  · intro w'
    go_simp
    with_reducible rfl
  rotate_left
  · simp only [Act.put, List.setIfInBounds_toArray, List.set_cons_zero, List.set_cons_succ, i64_w, i32_w]
    rfl
  refine pure_ (i := 5) (N := some 10) (v := ?_) (a' := ?_) #[true, true, true, false, true, true, false, false, false, false, false, false, false] rfl rfl (any_of HT_.out (by kernel_rfl)) (fun _ _ _ h => h) (Or.inl ⟨by rfl, ?_⟩) ?_ ?_
  rotate_left
  · intro w'
    go_simp
    with_reducible rfl
  rotate_left
  · simp only [Act.put, List.setIfInBounds_toArray, List.set_cons_zero, List.set_cons_succ, i64_w, i32_w]
    rfl
  refine pure_ (i := 6) (N := some 11) (v := ?_) (a' := ?_) #[true, true, true, false, true, true, true, false, false, false, false, false, false] rfl rfl (any_of HT_.out (by kernel_rfl)) (fun _ _ _ h => h) (Or.inl ⟨by rfl, ?_⟩) ?_ ?_
  rotate_left
  · intro w'
    go_simp
    with_reducible rfl
  rotate_left
  · simp only [Act.put, List.setIfInBounds_toArray, List.set_cons_zero, List.set_cons_succ, i64_w, i32_w]
    rfl
  refine take_ (i := 3) (N := some 8) (v := ?_) (a' := ?_) #[true, true, true, true, true, true, true, false, false, false, false, false, false] rfl rfl (take_ofW HT_.out HW_.out (by kernel_rfl)) (fun _ _ _ h => h) (Or.inl ⟨by rfl, ?_⟩) hHeld ?_ ?_
  rotate_left
  · rintro w' ⟨s0, s1⟩
    go_simp
    with_reducible rfl
  rotate_left
  · simp only [Act.put, List.setIfInBounds_toArray, List.set_cons_zero, List.set_cons_succ, i64_w, i32_w]
    rfl
  refine take_ (i := 7) (N := some 12) (v := ?_) (a' := ?_) #[true, true, true, true, true, true, true, true, false, false, false, false, false] rfl rfl (take_ofW HT_.out HW_.out (by kernel_rfl)) (fun _ _ _ h => h) (Or.inl ⟨by rfl, ?_⟩) hHeld ?_ ?_
  rotate_left
  · rintro w' ⟨s0, s1⟩
    go_simp
    with_reducible rfl
  rotate_left
  · simp only [Act.put, List.setIfInBounds_toArray, List.set_cons_zero, List.set_cons_succ, i64_w, i32_w]
    rfl
  refine pure_ (i := 8) (N := some 13) (v := ?_) (a' := ?_) #[true, true, true, true, true, true, true, true, true, false, false, false, false] rfl rfl (any_of HT_.out (by kernel_rfl)) (fun _ _ _ h => h) (Or.inl ⟨by rfl, ?_⟩) ?_ ?_
  rotate_left
  · intro w'
    go_simp
    with_reducible rfl
  rotate_left
  · simp only [Act.put, List.setIfInBounds_toArray, List.set_cons_zero, List.set_cons_succ, i64_w, i32_w]
    rfl
  refine pure_ (i := 9) (N := some 14) (v := ?_) (a' := ?_) #[true, true, true, true, true, true, true, true, true, true, false, false, false] rfl rfl (any_of HT_.out (by kernel_rfl)) (fun _ _ _ h => h) (Or.inl ⟨by rfl, ?_⟩) ?_ ?_
  rotate_left
  · intro w'
    go_simp
    with_reducible rfl
  rotate_left
  · simp only [Act.put, List.setIfInBounds_toArray, List.set_cons_zero, List.set_cons_succ, i64_w, i32_w]
    rfl
  refine pure_ (i := 10) (N := some 15) (v := ?_) (a' := ?_) #[true, true, true, true, true, true, true, true, true, true, true, false, false] rfl rfl (any_of HT_.out (by kernel_rfl)) (fun _ _ _ h => h) (Or.inl ⟨by rfl, ?_⟩) ?_ ?_
  rotate_left
  · intro w'
    go_simp
    with_reducible rfl
  rotate_left
  · simp only [Act.put, List.setIfInBounds_toArray, List.set_cons_zero, List.set_cons_succ, i64_w, i32_w]
    rfl
  refine take_ (i := 11) (N := some 16) (v := ?_) (a' := ?_) #[true, true, true, true, true, true, true, true, true, true, true, true, false] rfl rfl (take_ofW HT_.out HW_.out (by kernel_rfl)) (fun _ _ _ h => h) (Or.inl ⟨by rfl, ?_⟩) hHeld ?_ ?_
  rotate_left
  · rintro w' ⟨s0, s1⟩
    go_simp
    with_reducible rfl
  rotate_left
  · simp only [Act.put, List.setIfInBounds_toArray, List.set_cons_zero, List.set_cons_succ, i64_w, i32_w]
    rfl
  refine pure_ (i := 12) (N := some 2) (v := ?_) (a' := ?_) #[true, true, true, true, true, true, true, true, true, true, true, true, true] rfl rfl (any_of HT_.out (by kernel_rfl)) (fun _ _ _ h => h) (Or.inl ⟨by rfl, ?_⟩) ?_ ?_
  rotate_left
  · intro w'
    go_simp
    with_reducible rfl
  rotate_left
  · simp only [Act.put, List.setIfInBounds_toArray, List.set_cons_zero, List.set_cons_succ, i64_w, i32_w]
    rfl
  refine done_ (done_of HT_.out (by kernel_rfl)) ?_
  go_wp2
  have hgc1' : w1.cell? ⟨g, 1, none⟩ = some (.slice (some ⟨bw, 0, none⟩) (ws.length + 1) cw) := hHeld.1
  clear hHeld hgc1 hwc'
  have HS2 := Aside0.mk HS1.out.drew
  clear HS1
  refine start_ (n := 15) (S := fun w' => w'.cell? ⟨g, 1, none⟩ = some (.slice (some ⟨bw, 0, none⟩) (ws.length + 1) cw)) (ds := [14]) #[false, false, false, false, false, false, false, false, false, false, false, false, false, false, false] (by kernel_rfl) rfl rfl (hgc1') (fun hHeld => ?_); refine with_tabW tab_f21.tab1 tab_f21.bits1 (fun HT_ HW_ => ?_)
  generalize w1.drew = w2 at HS2 hHeld ⊢
  refine pure_ (i := 0) (N := some 17) (v := ?_) (a' := ?_) #[true, false, false, false, false, false, false, false, false, false, false, false, false, false, false] rfl rfl (any_of HT_.out (by kernel_rfl)) (fun _ _ _ h => h) (Or.inl ⟨by rfl, ?_⟩) ?_ ?_
  rotate_left
  · intro w'
    go_simp
    with_reducible rfl
  rotate_left
  · simp only [Act.put, List.setIfInBounds_toArray, List.set_cons_zero, List.set_cons_succ, i64_w, i32_w]
    rfl
  refine pure_ (i := 1) (N := some 18) (v := ?_) (a' := ?_) #[true, true, false, false, false, false, false, false, false, false, false, false, false, false, false] rfl rfl (any_of HT_.out (by kernel_rfl)) (fun _ _ _ h => h) (Or.inl ⟨by rfl, ?_⟩) ?_ ?_
  rotate_left
  · intro w'
    go_simp
    with_reducible rfl
  rotate_left
  · simp only [Act.put, List.setIfInBounds_toArray, List.set_cons_zero, List.set_cons_succ, i64_w, i32_w]
    rfl
  refine pure_ (i := 2) (N := some 19) (v := ?_) (a' := ?_) #[true, true, true, false, false, false, false, false, false, false, false, false, false, false, false] rfl rfl (any_of HT_.out (by kernel_rfl)) (fun _ _ _ h => h) (Or.inl ⟨by rfl, ?_⟩) ?_ ?_
  rotate_left
  · intro w'
    go_simp
    with_reducible rfl
  rotate_left
  · simp only [Act.put, List.setIfInBounds_toArray, List.set_cons_zero, List.set_cons_succ, i64_w, i32_w]
    rfl
  refine pure_ (i := 3) (N := some 20) (v := ?_) (a' := ?_) #[true, true, true, true, false, false, false, false, false, false, false, false, false, false, false] rfl rfl (any_of HT_.out (by kernel_rfl)) (fun _ _ _ h => h) (Or.inl ⟨by rfl, ?_⟩) ?_ ?_
  rotate_left
  · intro w'
    go_simp
    with_reducible rfl
  rotate_left
  · simp only [Act.put, List.setIfInBounds_toArray, List.set_cons_zero, List.set_cons_succ, i64_w, i32_w]
    rfl
  refine pure_ (i := 5) (N := some 22) (v := ?_) (a' := ?_) #[true, true, true, true, false, true, false, false, false, false, false, false, false, false, false] rfl rfl (any_of HT_.out (by kernel_rfl)) (fun _ _ _ h => h) (Or.inl ⟨by rfl, ?_⟩) ?_ ?_
  rotate_left
  · intro w'
    go_simp
    with_reducible rfl
  rotate_left
  · simp only [Act.put, List.setIfInBounds_toArray, List.set_cons_zero, List.set_cons_succ, i64_w, i32_w]
    rfl
  refine pure_ (i := 6) (N := some 23) (v := ?_) (a' := ?_) #[true, true, true, true, false, true, true, false, false, false, false, false, false, false, false] rfl rfl (any_of HT_.out (by kernel_rfl)) (fun _ _ _ h => h) (Or.inl ⟨by rfl, ?_⟩) ?_ ?_
  rotate_left
  · intro w'
    go_simp
    with_reducible rfl
  rotate_left
  · simp only [Act.put, List.setIfInBounds_toArray, List.set_cons_zero, List.set_cons_succ, i64_w, i32_w]
    rfl
  refine pure_ (i := 7) (N := some 24) (v := ?_) (a' := ?_) #[true, true, true, true, false, true, true, true, false, false, false, false, false, false, false] rfl rfl (any_of HT_.out (by kernel_rfl)) (fun _ _ _ h => h) (Or.inl ⟨by rfl, ?_⟩) ?_ ?_
  rotate_left
  · intro w'
    go_simp
    with_reducible rfl
  rotate_left
  · simp only [Act.put, List.setIfInBounds_toArray, List.set_cons_zero, List.set_cons_succ, i64_w, i32_w]
    rfl
  refine take_ (i := 4) (N := some 21) (v := ?_) (a' := ?_) #[true, true, true, true, true, true, true, true, false, false, false, false, false, false, false] rfl rfl (take_ofW HT_.out HW_.out (by kernel_rfl)) (fun _ _ _ h => h) (Or.inl ⟨by rfl, ?_⟩) hHeld ?_ ?_
  rotate_left
  · intro w' s0
    go_simp
    with_reducible rfl
  rotate_left
  · simp only [Act.put, List.setIfInBounds_toArray, List.set_cons_zero, List.set_cons_succ, i64_w, i32_w]
    rfl
  refine take_ (i := 8) (N := some 25) (v := ?_) (a' := ?_) #[true, true, true, true, true, true, true, true, true, false, false, false, false, false, false] rfl rfl (take_ofW HT_.out HW_.out (by kernel_rfl)) (fun _ _ _ h => h) (Or.inl ⟨by rfl, ?_⟩) hHeld ?_ ?_
  rotate_left
  · intro w' s0
    go_simp
    with_reducible rfl
  rotate_left
  · simp only [Act.put, List.setIfInBounds_toArray, List.set_cons_zero, List.set_cons_succ, i64_w, i32_w]
    rfl
  refine pure_ (i := 9) (N := some 26) (v := ?_) (a' := ?_) #[true, true, true, true, true, true, true, true, true, true, false, false, false, false, false] rfl rfl (any_of HT_.out (by kernel_rfl)) (fun _ _ _ h => h) (Or.inl ⟨by rfl, ?_⟩) ?_ ?_
  rotate_left
  · intro w'
    go_simp
    with_reducible rfl
  rotate_left
  · simp only [Act.put, List.setIfInBounds_toArray, List.set_cons_zero, List.set_cons_succ, i64_w, i32_w]
    rfl
  refine pure_ (i := 10) (N := some 27) (v := ?_) (a' := ?_) #[true, true, true, true, true, true, true, true, true, true, true, false, false, false, false] rfl rfl (any_of HT_.out (by kernel_rfl)) (fun _ _ _ h => h) (Or.inl ⟨by rfl, ?_⟩) ?_ ?_
  rotate_left
  · intro w'
    go_simp
    with_reducible rfl
  rotate_left
  · simp only [Act.put, List.setIfInBounds_toArray, List.set_cons_zero, List.set_cons_succ, i64_w, i32_w]
    rfl
  refine pure_ (i := 11) (N := some 28) (v := ?_) (a' := ?_) #[true, true, true, true, true, true, true, true, true, true, true, true, false, false, false] rfl rfl (any_of HT_.out (by kernel_rfl)) (fun _ _ _ h => h) (Or.inl ⟨by rfl, ?_⟩) ?_ ?_
  rotate_left
  · intro w'
    go_simp
    with_reducible rfl
  rotate_left
  · simp only [Act.put, List.setIfInBounds_toArray, List.set_cons_zero, List.set_cons_succ, i64_w, i32_w]
    rfl
  refine pure_ (i := 12) (N := some 29) (v := ?_) (a' := ?_) #[true, true, true, true, true, true, true, true, true, true, true, true, true, false, false] rfl rfl (any_of HT_.out (by kernel_rfl)) (fun _ _ _ h => h) (Or.inl ⟨by rfl, ?_⟩) ?_ ?_
  rotate_left
  · intro w'
    go_simp
    with_reducible rfl
  rotate_left
  · simp only [Act.put, List.setIfInBounds_toArray, List.set_cons_zero, List.set_cons_succ, i64_w, i32_w]
    rfl
  refine pure_ (i := 13) (N := some 30) (v := ?_) (a' := ?_) #[true, true, true, true, true, true, true, true, true, true, true, true, true, true, false] rfl rfl (any_of HT_.out (by kernel_rfl)) (fun _ _ _ h => h) (Or.inl ⟨by rfl, ?_⟩) ?_ ?_
  rotate_left
  · intro w'
    go_simp
    with_reducible rfl
  rotate_left
  · simp only [Act.put, List.setIfInBounds_toArray, List.set_cons_zero, List.set_cons_succ, i64_w, i32_w]
    rfl
  refine last_ (i := 14) (N := none) #[true, true, true, true, true, true, true, true, true, true, true, true, true, true, true] rfl rfl (one_of HT_.out (by kernel_rfl)) (by decide) (fun K hK => ?_)
  have hgf2 : w2.frozen? ⟨g, 1, none⟩ = false := blk_frozen HS2.out.gb 1
  refine skip_ (w1 := ?_) (by rfl) rfl ?_ ?_
  rotate_left
  · go_simp
    rfl
  refine hK.out _ _ ?_
  clear hK K
  refine done_ (done_of HT_.out (by kernel_rfl)) ?_
  clear hHeld hgc1' hgf2 hwn hlt1
  have HS3 : Aside0 (St wS w0 (w2.setCell ⟨g, 1, none⟩ (.slice (some ⟨bw, 0, none⟩) ws.length cw)) g v0 (.slice (some ⟨bw, 0, none⟩) ws.length cw) (.slice (some ⟨bd, 0, none⟩) (ds.length + 2) cd) (.slice (some ⟨bo, 0, none⟩) os.length co) ws (ds ++ [x, y]) os) := by
    refine Aside0.mk (HS2.out.setW ?_)
    have := Kd.R_take (m := ws.length) HS2.out.hw (by simp)
    simpa using this
  clear HS2 hcw'
  generalize w2.setCell ⟨g, 1, none⟩ (.slice (some ⟨bw, 0, none⟩) ws.length cw) = w3 at HS3 ⊢
  have hgc2 : w3.cell? ⟨g, 2, none⟩ = some (.slice (some ⟨bd, 0, none⟩) (ds.length + 2) cd) := (blk_cell HS3.out.gb 2).trans rfl
  go_wp2
  have hn2 : wrap64 (ds.length : Int) = (ds.length : Int) := by unfold wrap64; omega
  have hn1 : wrap64 ((ds.length : Int) + 2 - 1) = (ds.length : Int) + 1 := by unfold wrap64; omega
  have hl2 : ((ds.length : Int) < (ds.length : Int) + 2) = True := eq_true (by omega)
  have hl1 : ((ds.length : Int) + 1 < (ds.length : Int) + 2) = True := eq_true (by omega)
  have hl0 : (0 ≤ (ds.length : Int) + 1) = True := eq_true (by omega)
  have hx : w3.cell? ⟨bd, ds.length * 2, none⟩ = some (.int .i64 x.f0) := by
    obtain ⟨c, hcl, hM, hcc, _⟩ := Kd.R_elem HS3.out.hd z32 (ds.length : Int) (by omega) (by omega)
    obtain rfl := k32_openM hM
    have := hcc 0 _ rfl
    simpa [k32, Kd.iso, Kd.pair, Kd.int, Kd.scalar] using this
  have hy : w3.cell? ⟨bd, (ds.length + 1) * 2 + 1, none⟩ = some (.int .i64 y.f1) := by
    obtain ⟨c, hcl, hM, hcc, _⟩ := Kd.R_elem HS3.out.hd z32 ((ds.length : Int) + 1) (by omega) (by omega)
    obtain rfl := k32_openM hM
    have := hcc 1 _ rfl
    have e : ((ds.length : Int) + 1).toNat = ds.length + 1 := by omega
    rw [e] at this
    simpa [k32, Kd.iso, Kd.pair, Kd.int, Kd.scalar, List.getElem?_append] using this
  have HS4 := Aside0.mk HS3.out.drew
  clear HS3
  refine start_ (n := 21) (S := fun w' => w'.cell? ⟨g, 2, none⟩ = some (.slice (some ⟨bd, 0, none⟩) (ds.length + 2) cd) ∧ w'.cell? ⟨bd, ds.length * 2, none⟩ = some (.int .i64 x.f0) ∧ w'.cell? ⟨bd, (ds.length + 1) * 2 + 1, none⟩ = some (.int .i64 y.f1)) (ds := [20]) #[false, false, false, false, false, false, false, false, false, false, false, false, false, false, false, false, false, false, false, false, false] (by kernel_rfl) rfl rfl ⟨hgc2, hx, hy⟩ (fun hHeld => ?_); refine with_tabW tab_f21.tab3 tab_f21.bits3 (fun HT_ HW_ => ?_)
  generalize w3.drew = w4 at HS4 hHeld ⊢
  refine pure_ (i := 0) (N := some 36) (v := ?_) (a' := ?_) #[true, false, false, false, false, false, false, false, false, false, false, false, false, false, false, false, false, false, false, false, false] rfl rfl (any_of HT_.out (by kernel_rfl)) (fun _ _ _ h => h) (Or.inl ⟨by rfl, ?_⟩) ?_ ?_
  rotate_left
  · intro w'
    go_simp
    with_reducible rfl
  rotate_left
  · simp only [Act.put, List.setIfInBounds_toArray, List.set_cons_zero, List.set_cons_succ, i64_w, i32_w]
    rfl
  refine pure_ (i := 1) (N := some 37) (v := ?_) (a' := ?_) #[true, true, false, false, false, false, false, false, false, false, false, false, false, false, false, false, false, false, false, false, false] rfl rfl (any_of HT_.out (by kernel_rfl)) (fun _ _ _ h => h) (Or.inl ⟨by rfl, ?_⟩) ?_ ?_
  rotate_left
  · intro w'
    go_simp
    with_reducible rfl
  rotate_left
  · simp only [Act.put, List.setIfInBounds_toArray, List.set_cons_zero, List.set_cons_succ, i64_w, i32_w]
    rfl
  refine pure_ (i := 2) (N := some 38) (v := ?_) (a' := ?_) #[true, true, true, false, false, false, false, false, false, false, false, false, false, false, false, false, false, false, false, false, false] rfl rfl (any_of HT_.out (by kernel_rfl)) (fun _ _ _ h => h) (Or.inl ⟨by rfl, ?_⟩) ?_ ?_
  rotate_left
  · intro w'
    go_simp
    with_reducible rfl
  rotate_left
  · simp only [Act.put, List.setIfInBounds_toArray, List.set_cons_zero, List.set_cons_succ, i64_w, i32_w]
    rfl
  refine pure_ (i := 4) (N := some 40) (v := ?_) (a' := ?_) #[true, true, true, false, true, false, false, false, false, false, false, false, false, false, false, false, false, false, false, false, false] rfl rfl (any_of HT_.out (by kernel_rfl)) (fun _ _ _ h => h) (Or.inl ⟨by rfl, ?_⟩) ?_ ?_
  rotate_left
  · intro w'
    go_simp
    with_reducible rfl
  rotate_left
  · simp only [Act.put, List.setIfInBounds_toArray, List.set_cons_zero, List.set_cons_succ, i64_w, i32_w]
    rfl
  refine pure_ (i := 5) (N := some 41) (v := ?_) (a' := ?_) #[true, true, true, false, true, true, false, false, false, false, false, false, false, false, false, false, false, false, false, false, false] rfl rfl (any_of HT_.out (by kernel_rfl)) (fun _ _ _ h => h) (Or.inl ⟨by rfl, ?_⟩) ?_ ?_
  rotate_left
  · intro w'
    go_simp
    with_reducible rfl
  rotate_left
  · simp only [Act.put, List.setIfInBounds_toArray, List.set_cons_zero, List.set_cons_succ, i64_w, i32_w]
    rfl
  refine pure_ (i := 9) (N := some 45) (v := ?_) (a' := ?_) #[true, true, true, false, true, true, false, false, false, true, false, false, false, false, false, false, false, false, false, false, false] rfl rfl (any_of HT_.out (by kernel_rfl)) (fun _ _ _ h => h) (Or.inl ⟨by rfl, ?_⟩) ?_ ?_
  rotate_left
  · intro w'
    go_simp
    with_reducible rfl
  rotate_left
  · simp only [Act.put, List.setIfInBounds_toArray, List.set_cons_zero, List.set_cons_succ, i64_w, i32_w]
    rfl
  refine pure_ (i := 10) (N := some 46) (v := ?_) (a' := ?_) #[true, true, true, false, true, true, false, false, false, true, true, false, false, false, false, false, false, false, false, false, false] rfl rfl (any_of HT_.out (by kernel_rfl)) (fun _ _ _ h => h) (Or.inl ⟨by rfl, ?_⟩) ?_ ?_
  rotate_left
  · intro w'
    go_simp
    with_reducible rfl
  rotate_left
  · simp only [Act.put, List.setIfInBounds_toArray, List.set_cons_zero, List.set_cons_succ, i64_w, i32_w]
    rfl
  refine pure_ (i := 11) (N := some 47) (v := ?_) (a' := ?_) #[true, true, true, false, true, true, false, false, false, true, true, true, false, false, false, false, false, false, false, false, false] rfl rfl (any_of HT_.out (by kernel_rfl)) (fun _ _ _ h => h) (Or.inl ⟨by rfl, ?_⟩) ?_ ?_
  rotate_left
  · intro w'
    go_simp
    with_reducible rfl
  rotate_left
  · simp only [Act.put, List.setIfInBounds_toArray, List.set_cons_zero, List.set_cons_succ, i64_w, i32_w]
    rfl
  refine pure_ (i := 13) (N := some 49) (v := ?_) (a' := ?_) #[true, true, true, false, true, true, false, false, false, true, true, true, false, true, false, false, false, false, false, false, false] rfl rfl (any_of HT_.out (by kernel_rfl)) (fun _ _ _ h => h) (Or.inl ⟨by rfl, ?_⟩) ?_ ?_
  rotate_left
  · intro w'
    go_simp
    with_reducible rfl
  rotate_left
  · simp only [Act.put, List.setIfInBounds_toArray, List.set_cons_zero, List.set_cons_succ, i64_w, i32_w]
    rfl
  refine pure_ (i := 14) (N := some 50) (v := ?_) (a' := ?_) #[true, true, true, false, true, true, false, false, false, true, true, true, false, true, true, false, false, false, false, false, false] rfl rfl (any_of HT_.out (by kernel_rfl)) (fun _ _ _ h => h) (Or.inl ⟨by rfl, ?_⟩) ?_ ?_
  rotate_left
  · intro w'
    go_simp
    with_reducible rfl
  rotate_left
  · simp only [Act.put, List.setIfInBounds_toArray, List.set_cons_zero, List.set_cons_succ, i64_w, i32_w]
    rfl
  refine take_ (i := 3) (N := some 39) (v := ?_) (a' := ?_) #[true, true, true, true, true, true, false, false, false, true, true, true, false, true, true, false, false, false, false, false, false] rfl rfl (take_ofW HT_.out HW_.out (by kernel_rfl)) (fun _ _ _ h => h) (Or.inl ⟨by rfl, ?_⟩) hHeld ?_ ?_
  rotate_left
  · rintro w' ⟨s0, s1, s2⟩
    go_simp
    with_reducible rfl
  rotate_left
  · simp only [Act.put, List.setIfInBounds_toArray, List.set_cons_zero, List.set_cons_succ, i64_w, i32_w]
    rfl
  refine pure_ (i := 6) (N := some 42) (v := ?_) (a' := ?_) #[true, true, true, true, true, true, true, false, false, true, true, true, false, true, true, false, false, false, false, false, false] rfl rfl (any_of HT_.out (by kernel_rfl)) (fun _ _ _ h => h) (Or.inl ⟨by rfl, ?_⟩) ?_ ?_
  rotate_left
  · intro w'
    go_simp
    with_reducible rfl
  rotate_left
  · simp only [Act.put, List.setIfInBounds_toArray, List.set_cons_zero, List.set_cons_succ, i64_w, i32_w]
    rfl
  refine pure_ (i := 7) (N := some 43) (v := ?_) (a' := ?_) #[true, true, true, true, true, true, true, true, false, true, true, true, false, true, true, false, false, false, false, false, false] rfl rfl (any_of HT_.out (by kernel_rfl)) (fun _ _ _ h => h) (Or.inl ⟨by rfl, ?_⟩) ?_ ?_
  rotate_left
  · intro w'
    go_simp
    with_reducible rfl
  rotate_left
  · simp only [Act.put, List.setIfInBounds_toArray, List.set_cons_zero, List.set_cons_succ, i64_w, i32_w]
    rfl
  refine take_ (i := 8) (N := some 44) (v := ?_) (a' := ?_) #[true, true, true, true, true, true, true, true, true, true, true, true, false, true, true, false, false, false, false, false, false] rfl rfl (take_ofW HT_.out HW_.out (by kernel_rfl)) (fun _ _ _ h => h) (Or.inl ⟨by rfl, ?_⟩) hHeld ?_ ?_
  rotate_left
  · rintro w' ⟨s0, s1, s2⟩
    go_simp
    with_reducible rfl
  rotate_left
  · simp only [Act.put, List.setIfInBounds_toArray, List.set_cons_zero, List.set_cons_succ, i64_w, i32_w]
    rfl
  refine take_ (i := 12) (N := some 48) (v := ?_) (a' := ?_) #[true, true, true, true, true, true, true, true, true, true, true, true, true, true, true, false, false, false, false, false, false] rfl rfl (take_ofW HT_.out HW_.out (by kernel_rfl)) (fun _ _ _ h => h) (Or.inl ⟨by rfl, ?_⟩) hHeld ?_ ?_
  rotate_left
  · rintro w' ⟨s0, s1, s2⟩
    go_simp
    with_reducible rfl
  rotate_left
  · simp only [Act.put, List.setIfInBounds_toArray, List.set_cons_zero, List.set_cons_succ, i64_w, i32_w]
    rfl
  refine pure_ (i := 15) (N := some 51) (v := ?_) (a' := ?_) #[true, true, true, true, true, true, true, true, true, true, true, true, true, true, true, true, false, false, false, false, false] rfl rfl (any_of HT_.out (by kernel_rfl)) (fun _ _ _ h => h) (Or.inl ⟨by rfl, ?_⟩) ?_ ?_
  rotate_left
  · intro w'
    go_simp
    with_reducible rfl
  rotate_left
  · simp only [Act.put, List.setIfInBounds_toArray, List.set_cons_zero, List.set_cons_succ, i64_w, i32_w]
    rfl
  refine pure_ (i := 16) (N := some 52) (v := ?_) (a' := ?_) #[true, true, true, true, true, true, true, true, true, true, true, true, true, true, true, true, true, false, false, false, false] rfl rfl (any_of HT_.out (by kernel_rfl)) (fun _ _ _ h => h) (Or.inl ⟨by rfl, ?_⟩) ?_ ?_
  rotate_left
  · intro w'
    go_simp
    with_reducible rfl
  rotate_left
  · simp only [Act.put, List.setIfInBounds_toArray, List.set_cons_zero, List.set_cons_succ, i64_w, i32_w]
    rfl
  refine take_ (i := 17) (N := some 53) (v := ?_) (a' := ?_) #[true, true, true, true, true, true, true, true, true, true, true, true, true, true, true, true, true, true, false, false, false] rfl rfl (take_ofW HT_.out HW_.out (by kernel_rfl)) (fun _ _ _ h => h) (Or.inl ⟨by rfl, ?_⟩) hHeld ?_ ?_
  rotate_left
  · rintro w' ⟨s0, s1, s2⟩
    go_simp
    with_reducible rfl
  rotate_left
  · simp only [Act.put, List.setIfInBounds_toArray, List.set_cons_zero, List.set_cons_succ, i64_w, i32_w]
    rfl
  refine pure_ (i := 18) (N := some 54) (v := ?_) (a' := ?_) #[true, true, true, true, true, true, true, true, true, true, true, true, true, true, true, true, true, true, true, false, false] rfl rfl (any_of HT_.out (by kernel_rfl)) (fun _ _ _ h => h) (Or.inl ⟨by rfl, ?_⟩) ?_ ?_
  rotate_left
  · intro w'
    go_simp
    with_reducible rfl
  rotate_left
  · simp only [Act.put, List.setIfInBounds_toArray, List.set_cons_zero, List.set_cons_succ, i64_w, i32_w]
    rfl
  refine one_ (i := 19) (N := some 4) #[true, true, true, true, true, true, true, true, true, true, true, true, true, true, true, true, true, true, true, true, false] rfl rfl (one_of HT_.out (by kernel_rfl)) (by decide) (fun K hK => ?_)
  refine value_ (w1 := ?_) (v := ?_) (by rfl) rfl ?_ ?_
  rotate_left 2
  · go_simp
    constructor
    · rfl
    · rfl
  refine hK.out _ _ ⟨(cell_up hHeld.1), (cell_up hHeld.2.1), (cell_up hHeld.2.2)⟩ (fun hHeld => ?_)
  clear hK K
  refine norm_ (a' := ?_) ?_ ?_
  rotate_left
  · show Act.put _ (some 4) _ = _
    simp only [Act.put, List.setIfInBounds_toArray, List.set_cons_zero, List.set_cons_succ, i64_w, i32_w]
    rfl
  refine last_ (i := 20) (N := none) #[true, true, true, true, true, true, true, true, true, true, true, true, true, true, true, true, true, true, true, true, true] rfl rfl (one_of HT_.out (by kernel_rfl)) (by decide) (fun K hK => ?_)
  refine skip_ (w1 := ?_) (by rfl) rfl ?_ ?_
  rotate_left
  · go_simp
    rfl
  refine hK.out _ _ ?_
  clear hK K
  refine done_ (done_of HT_.out (by kernel_rfl)) ?_
  go_wp2
  clear hHeld hgc2 hx hy hn1 hl2 hl1 hl0
  have HNB : Aside0 ((w4.alloc (.cells #[.int .i64 x.f0, .int .i64 y.f1] 32)).heap[w4.heap.size]? = some (.cells #[.int .i64 x.f0, .int .i64 y.f1] 32 (0, 0))) := ⟨blk_new w4 _⟩
  have HLT : Aside0 (bd < w4.heap.size) := ⟨Kd.R_lt HS4.out.hd bd rfl⟩
  have HS5 : Aside0 (St wS w0 (w4.alloc (.cells #[.int .i64 x.f0, .int .i64 y.f1] 32)) g v0 (.slice (some ⟨bw, 0, none⟩) ws.length cw) (.slice (some ⟨bd, 0, none⟩) (ds.length + 2) cd) (.slice (some ⟨bo, 0, none⟩) os.length co) ws (ds ++ [x, y]) os) := ⟨HS4.out.below (below_alloc (Below.refl _ _) _)⟩
  clear HS4
  generalize w4.heap.size = nb at HNB HLT ⊢
  generalize w4.alloc (.cells #[.int .i64 x.f0, .int .i64 y.f1] 32) = w5 at HNB HS5 ⊢
  have hgc3 : w5.cell? ⟨g, 2, none⟩ = some (.slice (some ⟨bd, 0, none⟩) (ds.length + 2) cd) := (blk_cell HS5.out.gb 2).trans rfl
  have hb0 : w5.cell? ⟨nb, 0, none⟩ = some (.int .i64 x.f0) := (blk_cell HNB.out 0).trans rfl
  have hb1 : w5.cell? ⟨nb, 1, none⟩ = some (.int .i64 y.f1) := (blk_cell HNB.out 1).trans rfl
  have hcd' : (ds.length ≤ cd) = True := eq_true (by have := HCD.out; omega)
  have HS6 := Aside0.mk HS5.out.drew
  have HNB6 : Aside0 (w5.drew.heap[nb]? = some (.cells #[.int .i64 x.f0, .int .i64 y.f1] 32 (0, 0))) := ⟨HNB.out⟩
  clear HS5 HNB
  refine start_ (n := 14) (S := fun w' => w'.cell? ⟨g, 2, none⟩ = some (.slice (some ⟨bd, 0, none⟩) (ds.length + 2) cd) ∧ w'.cell? ⟨nb, 0, none⟩ = some (.int .i64 x.f0) ∧ w'.cell? ⟨nb, 1, none⟩ = some (.int .i64 y.f1)) (ds := [10, 13]) #[false, false, false, false, false, false, false, false, false, false, false, false, false, false] (by kernel_rfl) rfl rfl ⟨hgc3, hb0, hb1⟩ (fun hHeld => ?_); refine with_tabW tab_f21.tab4 tab_f21.bits4 (fun HT_ HW_ => ?_)
  generalize w5.drew = w6 at HS6 HNB6 hHeld ⊢
  refine pure_ (i := 0) (N := some 55) (v := ?_) (a' := ?_) #[true, false, false, false, false, false, false, false, false, false, false, false, false, false] rfl rfl (any_of HT_.out (by kernel_rfl)) (fun _ _ _ h => h) (Or.inl ⟨by rfl, ?_⟩) ?_ ?_
  rotate_left
  · intro w'
    go_simp
    with_reducible rfl
  rotate_left
  · simp only [Act.put, List.setIfInBounds_toArray, List.set_cons_zero, List.set_cons_succ, i64_w, i32_w]
    rfl
  refine pure_ (i := 1) (N := some 56) (v := ?_) (a' := ?_) #[true, true, false, false, false, false, false, false, false, false, false, false, false, false] rfl rfl (any_of HT_.out (by kernel_rfl)) (fun _ _ _ h => h) (Or.inl ⟨by rfl, ?_⟩) ?_ ?_
  rotate_left
  · intro w'
    go_simp
    with_reducible rfl
  rotate_left
  · simp only [Act.put, List.setIfInBounds_toArray, List.set_cons_zero, List.set_cons_succ, i64_w, i32_w]
    rfl
  refine pure_ (i := 2) (N := some 57) (v := ?_) (a' := ?_) #[true, true, true, false, false, false, false, false, false, false, false, false, false, false] rfl rfl (any_of HT_.out (by kernel_rfl)) (fun _ _ _ h => h) (Or.inl ⟨by rfl, ?_⟩) ?_ ?_
  rotate_left
  · intro w'
    go_simp
    with_reducible rfl
  rotate_left
  · simp only [Act.put, List.setIfInBounds_toArray, List.set_cons_zero, List.set_cons_succ, i64_w, i32_w]
    rfl
  refine pure_ (i := 3) (N := some 58) (v := ?_) (a' := ?_) #[true, true, true, true, false, false, false, false, false, false, false, false, false, false] rfl rfl (any_of HT_.out (by kernel_rfl)) (fun _ _ _ h => h) (Or.inl ⟨by rfl, ?_⟩) ?_ ?_
  rotate_left
  · intro w'
    go_simp
    with_reducible rfl
  rotate_left
  · simp only [Act.put, List.setIfInBounds_toArray, List.set_cons_zero, List.set_cons_succ, i64_w, i32_w]
    rfl
  refine pure_ (i := 5) (N := some 60) (v := ?_) (a' := ?_) #[true, true, true, true, false, true, false, false, false, false, false, false, false, false] rfl rfl (any_of HT_.out (by kernel_rfl)) (fun _ _ _ h => h) (Or.inl ⟨by rfl, ?_⟩) ?_ ?_
  rotate_left
  · intro w'
    go_simp
    with_reducible rfl
  rotate_left
  · simp only [Act.put, List.setIfInBounds_toArray, List.set_cons_zero, List.set_cons_succ, i64_w, i32_w]
    rfl
  refine pure_ (i := 6) (N := some 61) (v := ?_) (a' := ?_) #[true, true, true, true, false, true, true, false, false, false, false, false, false, false] rfl rfl (any_of HT_.out (by kernel_rfl)) (fun _ _ _ h => h) (Or.inl ⟨by rfl, ?_⟩) ?_ ?_
  rotate_left
  · intro w'
    go_simp
    with_reducible rfl
  rotate_left
  · simp only [Act.put, List.setIfInBounds_toArray, List.set_cons_zero, List.set_cons_succ, i64_w, i32_w]
    rfl
  refine take_ (i := 4) (N := some 59) (v := ?_) (a' := ?_) #[true, true, true, true, true, true, true, false, false, false, false, false, false, false] rfl rfl (take_ofW HT_.out HW_.out (by kernel_rfl)) (fun _ _ _ h => h) (Or.inl ⟨by rfl, ?_⟩) hHeld ?_ ?_
  rotate_left
  · rintro w' ⟨s0, s1, s2⟩
    go_simp
    with_reducible rfl
  rotate_left
  · simp only [Act.put, List.setIfInBounds_toArray, List.set_cons_zero, List.set_cons_succ, i64_w, i32_w]
    rfl
  refine pure_ (i := 7) (N := some 62) (v := ?_) (a' := ?_) #[true, true, true, true, true, true, true, true, false, false, false, false, false, false] rfl rfl (any_of HT_.out (by kernel_rfl)) (fun _ _ _ h => h) (Or.inl ⟨by rfl, ?_⟩) ?_ ?_
  rotate_left
  · intro w'
    go_simp
    with_reducible rfl
  rotate_left
  · simp only [Act.put, List.setIfInBounds_toArray, List.set_cons_zero, List.set_cons_succ, i64_w, i32_w]
    rfl
  refine take_ (i := 8) (N := some 63) (v := ?_) (a' := ?_) #[true, true, true, true, true, true, true, true, true, false, false, false, false, false] rfl rfl (take_ofW HT_.out HW_.out (by kernel_rfl)) (fun _ _ _ h => h) (Or.inl ⟨by rfl, ?_⟩) hHeld ?_ ?_
  rotate_left
  · rintro w' ⟨s0, s1, s2⟩
    go_simp
    with_reducible rfl
  rotate_left
  · simp only [Act.put, List.setIfInBounds_toArray, List.set_cons_zero, List.set_cons_succ, i64_w, i32_w]
    rfl
  refine one_ (i := 9) (N := some 64) #[true, true, true, true, true, true, true, true, true, true, false, false, false, false] rfl rfl (one_of HT_.out (by kernel_rfl)) (by decide) (fun K hK => ?_)
  refine value_ (w1 := ?_) (v := ?_) (by rfl) rfl ?_ ?_
  rotate_left 2
  · go_simp
    constructor
    · rfl
    · rfl
  refine hK.out _ _ ⟨(cell_up hHeld.1), (cell_up hHeld.2.1), (cell_up hHeld.2.2)⟩ (fun hHeld => ?_)
  clear hK K
  refine norm_ (a' := ?_) ?_ ?_
  rotate_left
  · show Act.put _ (some 64) _ = _
    simp only [Act.put, List.setIfInBounds_toArray, List.set_cons_zero, List.set_cons_succ, i64_w, i32_w]
    rfl
  refine last_ (i := 10) (N := some 65) #[true, true, true, true, true, true, true, true, true, true, true, false, false, false] rfl rfl (one_of HT_.out (by kernel_rfl)) (by decide) (fun K hK => ?_)
  refine Kd.R_append_step k32 (w0 := w0) (W := w6) w0.heap.size rfl (.tmp 62) (.tmp 64) 23 32 (.agg #[(.int .i64 0), (.int .i64 0)]) 16 rfl Try.underlying23 info32 rfl (by decide) (by omega) (.slice (some ⟨bd, 0, none⟩) ds.length cd) ds ⟨x.f0, y.f1⟩ [.int .i64 x.f0, .int .i64 y.f1] (fun k => some k ≠ (.slice (some ⟨bo, 0, none⟩) os.length co : Value).ownBlock) (fun _ => False) rfl rfl ?aP (fun _ hk => hk.elim) ?aF ?aO ?aB ?aS ?aL ?_
  case aP => exact k32_mkM _ _ _ ⟨x.f0, y.f1⟩
  case aF => exact Kd.fresh_ok HS6.out.ho
  case aO => exact (by have := Kd.R_take (m := ds.length) HS6.out.hd (by simp); simpa using this)
  case aB => exact HS6.out.bl
  case aS => exact HS6.out.bl.size
  case aL => omega
  intro vd' w7 hd7 hb7 hg7 hat7
  obtain ⟨gb7, hs7⟩ := St.appended HS6.out hb7 hd7 hg7 hat7 (by simp)
  have hnb7 : w7.heap[nb]? = some (.cells #[.int .i64 x.f0, .int .i64 y.f1] 32 (0, 0)) := blk_grown HNB6.out hg7 (show some nb ≠ some bd from fun e => by have := HLT.out; injection e with e; omega)
  obtain ⟨bd', cd', rfl, -, -, -⟩ := Kd.R_form hd7 (by simp)
  have HS7 := Aside0.mk hs7
  have HNB7 := Aside0.mk (blk_far hnb7 (p := ⟨g, 2, none⟩) (blk_ne hnb7 gb7 (by decide)) (.slice (some ⟨bd', 0, none⟩) (ds ++ [(⟨x.f0, y.f1⟩ : S32)]).length cd'))
  have hf7 : w7.frozen? ⟨g, 2, none⟩ = false := blk_frozen gb7 2
  have hc7 : w7.cell? ⟨g, 2, none⟩ = some (.slice (some ⟨bd, 0, none⟩) (ds.length + 2) cd) := (blk_cell gb7 2).trans rfl
  clear hs7 hnb7 gb7 hd7 hb7 hg7 hat7
  refine hK.out _ _ ?_
  clear hK K
  refine norm_ (a' := ?_) ?_ ?_
  rotate_left
  · show Act.put _ (some 65) _ = _
    simp only [Act.put, List.setIfInBounds_toArray, List.set_cons_zero, List.set_cons_succ, i64_w, i32_w]
    rfl
  refine pure_ (i := 11) (N := some 66) (v := ?_) (a' := ?_) #[true, true, true, true, true, true, true, true, true, true, true, true, false, false] rfl rfl (any_of HT_.out (by kernel_rfl)) (fun _ _ _ h => h) (Or.inl ⟨by rfl, ?_⟩) ?_ ?_
  rotate_left
  · intro w'
    go_simp
    with_reducible rfl
  rotate_left
  · simp only [Act.put, List.setIfInBounds_toArray, List.set_cons_zero, List.set_cons_succ, i64_w, i32_w]
    rfl
  refine pure_ (i := 12) (N := some 67) (v := ?_) (a' := ?_) #[true, true, true, true, true, true, true, true, true, true, true, true, true, false] rfl rfl (any_of HT_.out (by kernel_rfl)) (fun _ _ _ h => h) (Or.inl ⟨by rfl, ?_⟩) ?_ ?_
  rotate_left
  · intro w'
    go_simp
    with_reducible rfl
  rotate_left
  · simp only [Act.put, List.setIfInBounds_toArray, List.set_cons_zero, List.set_cons_succ, i64_w, i32_w]
    rfl
  refine last_ (i := 13) (N := none) #[true, true, true, true, true, true, true, true, true, true, true, true, true, true] rfl rfl (one_of HT_.out (by kernel_rfl)) (by decide) (fun K hK => ?_)
  refine skip_ (w1 := ?_) (by rfl) rfl ?_ ?_
  rotate_left
  · go_simp
    rfl
  refine hK.out _ _ ?_
  clear hK K
  refine done_ (done_of HT_.out (by kernel_rfl)) ?_
  clear hHeld hgc3 hb0 hb1 hcd' hf7 hc7
  go_wp2
  have hl7 : (ds ++ [(⟨x.f0, y.f1⟩ : S32)]).length = ds.length + 1 := by simp
  rw [hl7] at HS7 HNB7
  clear hl7 HS6 HNB6 HLT HCD
  generalize w7.setCell ⟨g, 2, none⟩ (.slice (some ⟨bd', 0, none⟩) (ds.length + 1) cd') = w8 at HS7 HNB7 ⊢
  have hgc4 : w8.cell? ⟨g, 3, none⟩ = some (.slice (some ⟨bo, 0, none⟩) os.length co) := (blk_cell HS7.out.gb 3).trans rfl
  have hb0 : w8.cell? ⟨nb, 0, none⟩ = some (.int .i64 x.f0) := (blk_cell HNB7.out 0).trans rfl
  have hb1 : w8.cell? ⟨nb, 1, none⟩ = some (.int .i64 y.f1) := (blk_cell HNB7.out 1).trans rfl
  have HS8 := Aside0.mk HS7.out.drew
  clear HS7 HNB7
  refine start_ (n := 8) (S := fun w' => w'.cell? ⟨g, 3, none⟩ = some (.slice (some ⟨bo, 0, none⟩) os.length co) ∧ w'.cell? ⟨nb, 0, none⟩ = some (.int .i64 x.f0) ∧ w'.cell? ⟨nb, 1, none⟩ = some (.int .i64 y.f1)) (ds := [7]) #[false, false, false, false, false, false, false, false] (by kernel_rfl) rfl rfl ⟨hgc4, hb0, hb1⟩ (fun hHeld => ?_); refine with_tabW tab_f21.tab5 tab_f21.bits5 (fun HT_ HW_ => ?_)
  generalize w8.drew = w9 at HS8 hHeld ⊢
  refine pure_ (i := 0) (N := some 68) (v := ?_) (a' := ?_) #[true, false, false, false, false, false, false, false] rfl rfl (any_of HT_.out (by kernel_rfl)) (fun _ _ _ h => h) (Or.inl ⟨by rfl, ?_⟩) ?_ ?_
  rotate_left
  · intro w'
    go_simp
    with_reducible rfl
  rotate_left
  · simp only [Act.put, List.setIfInBounds_toArray, List.set_cons_zero, List.set_cons_succ, i64_w, i32_w]
    rfl
  refine pure_ (i := 1) (N := some 69) (v := ?_) (a' := ?_) #[true, true, false, false, false, false, false, false] rfl rfl (any_of HT_.out (by kernel_rfl)) (fun _ _ _ h => h) (Or.inl ⟨by rfl, ?_⟩) ?_ ?_
  rotate_left
  · intro w'
    go_simp
    with_reducible rfl
  rotate_left
  · simp only [Act.put, List.setIfInBounds_toArray, List.set_cons_zero, List.set_cons_succ, i64_w, i32_w]
    rfl
  refine pure_ (i := 2) (N := some 70) (v := ?_) (a' := ?_) #[true, true, true, false, false, false, false, false] rfl rfl (any_of HT_.out (by kernel_rfl)) (fun _ _ _ h => h) (Or.inl ⟨by rfl, ?_⟩) ?_ ?_
  rotate_left
  · intro w'
    go_simp
    with_reducible rfl
  rotate_left
  · simp only [Act.put, List.setIfInBounds_toArray, List.set_cons_zero, List.set_cons_succ, i64_w, i32_w]
    rfl
  refine pure_ (i := 4) (N := some 72) (v := ?_) (a' := ?_) #[true, true, true, false, true, false, false, false] rfl rfl (any_of HT_.out (by kernel_rfl)) (fun _ _ _ h => h) (Or.inl ⟨by rfl, ?_⟩) ?_ ?_
  rotate_left
  · intro w'
    go_simp
    with_reducible rfl
  rotate_left
  · simp only [Act.put, List.setIfInBounds_toArray, List.set_cons_zero, List.set_cons_succ, i64_w, i32_w]
    rfl
  refine take_ (i := 3) (N := some 71) (v := ?_) (a' := ?_) #[true, true, true, true, true, false, false, false] rfl rfl (take_ofW HT_.out HW_.out (by kernel_rfl)) (fun _ _ _ h => h) (Or.inl ⟨by rfl, ?_⟩) hHeld ?_ ?_
  rotate_left
  · rintro w' ⟨s0, s1, s2⟩
    go_simp
    with_reducible rfl
  rotate_left
  · simp only [Act.put, List.setIfInBounds_toArray, List.set_cons_zero, List.set_cons_succ, i64_w, i32_w]
    rfl
  refine take_ (i := 5) (N := some 73) (v := ?_) (a' := ?_) #[true, true, true, true, true, true, false, false] rfl rfl (take_ofW HT_.out HW_.out (by kernel_rfl)) (fun _ _ _ h => h) (Or.inl ⟨by rfl, ?_⟩) hHeld ?_ ?_
  rotate_left
  · rintro w' ⟨s0, s1, s2⟩
    go_simp
    with_reducible rfl
  rotate_left
  · simp only [Act.put, List.setIfInBounds_toArray, List.set_cons_zero, List.set_cons_succ, i64_w, i32_w]
    rfl
  refine pure_ (i := 6) (N := some 74) (v := ?_) (a' := ?_) #[true, true, true, true, true, true, true, false] rfl rfl (any_of HT_.out (by kernel_rfl)) (fun _ _ _ h => h) (Or.inl ⟨by rfl, ?_⟩) ?_ ?_
  rotate_left
  · intro w'
    go_simp
    with_reducible rfl
  rotate_left
  · simp only [Act.put, List.setIfInBounds_toArray, List.set_cons_zero, List.set_cons_succ, i64_w, i32_w]
    rfl
  refine last_ (i := 7) (N := none) #[true, true, true, true, true, true, true, true] rfl rfl (one_of HT_.out (by kernel_rfl)) (by decide) (fun K hK => ?_)
  obtain ⟨c9, hcl9, hM9, hcc9, hfr9⟩ := Kd.R_elem HS8.out.ho z32 i hi0 hi1
  obtain rfl := k32_openM hM9
  have hx9 : w9.cell? ⟨bo, i.toNat * 2, none⟩ = some (.int .i64 ((os.getD i.toNat z32).f0)) := hcc9 0 _ rfl
  have hy9 : w9.cell? ⟨bo, i.toNat * 2 + 1, none⟩ = some (.int .i64 ((os.getD i.toNat z32).f1)) := hcc9 1 _ rfl
  have hf9 : w9.frozen? ⟨bo, i.toNat * 2, none⟩ = false := hfr9 0
  have hg9 : w9.frozen? ⟨bo, i.toNat * 2 + 1, none⟩ = false := hfr9 1
  clear hcl9 hM9 hcc9 hfr9
  refine skip_ (w1 := ?_) (by rfl) rfl ?_ ?_
  rotate_left
  · go_simp
    rfl
  refine hK.out _ _ ?_
  clear hK K
  refine done_ (done_of HT_.out (by kernel_rfl)) ?_
  go_wp2
  first | go_end0 | ((try simp only [Exit.inBlock, Exit.then]); refine bodyPost_ret (results_none rfl _ _ _) rfl ?_)
  exact ⟨rfl, _, _, HS8.out.stored i hi0 hi1 x.f0 y.f1⟩
end Go.Proofs.Ytmiepbnjocojhaa.QN
