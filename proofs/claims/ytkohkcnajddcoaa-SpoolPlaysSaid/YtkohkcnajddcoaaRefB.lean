/- The document's spool: Move; a spool beside it: same. -/
import Derived.Test.YtkohkcnajddcoaaRef
import Derived.Outline
namespace Go.Proofs.Ytkohkcnajddcoaa.QN
open Go.RowKit Go.Conc Go.Proofs.YtkohkcnajddcoaaW.PrintWords Go.Proofs.YtkohkcnajddcoaaW.PrintLast Go.Proofs.YtkohkcnajddcoaaW.PrintMore
set_option linter.unusedVariables false
set_option linter.unusedSimpArgs false

def tab_f26.T3 : Bool × List (List Nat × List Nat) := (true, [([], []), ([], []), ([1], [1]), ([2], [2]), ([3], [3]), ([0, 4], [0, 4]), ([5], [5]), ([6], [6]), ([6], [6]), ([], []), ([9, 7, 5, 0, 1, 2, 3, 4, 5, 6, 7, 9], [7, 9]), ([8, 10, 0, 1, 2, 3, 4, 5, 6, 7, 8, 9, 10], [8])])
def tab_f26.B3 : List Nat := [0, 0, 2, 6, 14, 31, 63, 127, 127, 0, 767, 2047]
theorem tab_f26.tab3 : rtab .any (opsOf Try.f26 3) = tab_f26.T3 := by kernel_rfl
theorem tab_f26.bits3 : waitsOk tab_f26.T3.2 tab_f26.B3 = true := by kernel_rfl
def tab_f28.T1 : Bool × List (List Nat × List Nat) := (true, [([], []), ([0], [0]), ([], []), ([2], [2]), ([3], [3]), ([1, 4], [1, 4]), ([5, 1], [5]), ([6], [6]), ([7, 6, 6], [6, 7]), ([6], [6]), ([9, 6], [6, 9]), ([8, 10, 6], [6, 8, 10]), ([6, 11], [6, 11]), ([12, 8], [12]), ([13], [13]), ([14, 13, 13], [13, 14]), ([13], [13]), ([16, 13], [13, 16]), ([17, 13], [13, 17]), ([15, 18, 13], [13, 15, 18]), ([13, 19], [13, 19]), ([20, 15, 0, 1, 2, 3, 4, 5, 6, 7, 8, 9, 10, 11, 12, 13, 14, 15, 16, 17, 18, 19, 20], [20])])
def tab_f28.B1 : List Nat := [0, 1, 0, 4, 12, 31, 63, 127, 255, 127, 639, 2047, 4095, 8191, 16383, 32767, 16383, 81919, 212991, 524287, 1048575, 2097151]
theorem tab_f28.tab1 : rtab .any (opsOf Try.f28 1) = tab_f28.T1 := by kernel_rfl
theorem tab_f28.bits1 : waitsOk tab_f28.T1.2 tab_f28.B1 = true := by kernel_rfl
set_option maxHeartbeats 4000000 in
set_option maxRecDepth 100000 in
theorem same_calls {w0 W : World} {p c B : Nat} (R : Nat) (xs : List Int) (cl : Bool) (v : Value) (h : Sw 62 w0 W p c R (V xs) cl) (hr : RO W B v xs) :
    Calls Try.prog 28 #[.pointer (some ⟨p, 0, none⟩), .agg #[v, .int .i64 (R : Int), .bool cl]] W fun e w' => e = .returned (.bool true) ∧ Below W.heap.size W w' := by
  obtain ⟨A, cc, rfl, hl, hC, hA⟩ := hr
  clear hC hA hl
  have H1 : Aside0 ((W.alloc (.cells #[.slice A xs.length cc, .int .i64 (R : Int), .bool cl] 43)).heap[W.heap.size]? = some (.cells #[.slice A xs.length cc, .int .i64 (R : Int), .bool cl] 43 (0, 0))) := ⟨blk_new W _⟩
  have HB : Aside0 (Below W.heap.size W (W.alloc (.cells #[.slice A xs.length cc, .int .i64 (R : Int), .bool cl] 43))) := ⟨below_alloc (Below.refl _ _) _⟩
  have HS : Aside0 (Sp 62 (W.alloc (.cells #[.slice A xs.length cc, .int .i64 (R : Int), .bool cl] 43)) p c R (V xs) cl) := ⟨h.sp.below HB.out⟩
  clear h
  have hvl := V_len xs
  go_enter Try.func28, Try.ntmps28
  go_upto_region 1 with (fail)
  generalize W.alloc (.cells #[.slice A xs.length cc, .int .i64 (R : Int), .bool cl] 43) = w1 at H1 HB HS ⊢
  obtain ⟨g, hg⟩ : ∃ g, W.heap.size = g := ⟨_, rfl⟩
  rw [hg] at H1 ⊢
  clear hg
  have a0 : w1.cell? ⟨g, 0, none⟩ = some (.slice A xs.length cc) := (blk_cell H1.out 0).trans rfl
  have a1 : w1.cell? ⟨g, 1, none⟩ = some (.int .i64 (R : Int)) := (blk_cell H1.out 1).trans rfl
  have a2 : w1.cell? ⟨g, 2, none⟩ = some (.bool cl) := (blk_cell H1.out 2).trans rfl
  have HB2 : Aside0 (Below W.heap.size W w1.drew) := ⟨below_drew HB.out⟩
  have HS2 : Aside0 (Sp 62 w1.drew p c R (V xs) cl) := ⟨HS.out.below (below_drew (Below.refl _ _))⟩
  clear HB HS H1
  refine start_ (n := 22) (S := fun w' => w'.cell? ⟨g, 0, none⟩ = some (.slice A xs.length cc) ∧ w'.cell? ⟨g, 1, none⟩ = some (.int .i64 (R : Int)) ∧ w'.cell? ⟨g, 2, none⟩ = some (.bool cl)) (ds := []) #[false, false, false, false, false, false, false, false, false, false, false, false, false, false, false, false, false, false, false, false, false, false] (by kernel_rfl) rfl rfl ⟨a0, a1, a2⟩ (fun hHeld => ?_); refine with_tabW tab_f28.tab1 tab_f28.bits1 (fun HT_ HW_ => ?_)
  generalize w1.drew = w2 at HB2 HS2 hHeld ⊢
  refine pure_ (i := 0) (N := some 5) (v := ?_) (a' := ?_) #[true, false, false, false, false, false, false, false, false, false, false, false, false, false, false, false, false, false, false, false, false, false] rfl rfl (any_of HT_.out (by kernel_rfl)) (fun _ _ _ h => h) (Or.inl ⟨by rfl, ?_⟩) ?_ ?_
  rotate_left
  · intro w'
    go_simp
    with_reducible rfl
  rotate_left
  · simp only [Act.put, List.setIfInBounds_toArray, List.set_cons_zero, List.set_cons_succ, i64_w, i32_w]
    rfl
  refine pure_ (i := 2) (N := some 7) (v := ?_) (a' := ?_) #[true, false, true, false, false, false, false, false, false, false, false, false, false, false, false, false, false, false, false, false, false, false] rfl rfl (any_of HT_.out (by kernel_rfl)) (fun _ _ _ h => h) (Or.inl ⟨by rfl, ?_⟩) ?_ ?_
  rotate_left
  · intro w'
    go_simp
    with_reducible rfl
  rotate_left
  · simp only [Act.put, List.setIfInBounds_toArray, List.set_cons_zero, List.set_cons_succ, i64_w, i32_w]
    rfl
  refine take_ (i := 3) (N := some 8) (v := ?_) (a' := ?_) #[true, false, true, true, false, false, false, false, false, false, false, false, false, false, false, false, false, false, false, false, false, false] rfl rfl (take_ofW HT_.out HW_.out (by kernel_rfl)) (fun _ _ _ h => h) (Or.inl ⟨by rfl, ?_⟩) hHeld ?_ ?_
  rotate_left
  · rintro w' ⟨s0, s1, s2⟩
    go_simp
    with_reducible rfl
  rotate_left
  · simp only [Act.put, List.setIfInBounds_toArray, List.set_cons_zero, List.set_cons_succ, i64_w, i32_w]
    rfl
  refine pure_ (i := 4) (N := some 9) (v := ?_) (a' := ?_) #[true, false, true, true, true, false, false, false, false, false, false, false, false, false, false, false, false, false, false, false, false, false] rfl rfl (any_of HT_.out (by kernel_rfl)) (fun _ _ _ h => h) (Or.inl ⟨by rfl, ?_⟩) ?_ ?_
  rotate_left
  · intro w'
    go_simp
    with_reducible rfl
  rotate_left
  · simp only [Act.put, List.setIfInBounds_toArray, List.set_cons_zero, List.set_cons_succ, i64_w, i32_w]
    rfl
  refine one_ (i := 1) (N := some 6) #[true, true, true, true, true, false, false, false, false, false, false, false, false, false, false, false, false, false, false, false, false, false] rfl rfl (one_of HT_.out (by kernel_rfl)) (by decide) (fun K hK => ?_)
  refine goes_ Try.func12 (by kernel_rfl) rfl #[.pointer (some ⟨p, 0, none⟩)] (by rfl) rfl rfl (by simp only [List.map_toArray, List.map_cons, List.map_nil]; rfl) ?_
  with_reducible refine (lenI_calls HS2.out).mono ?_
  rintro e w3 ⟨rfl, rfl⟩
  refine ⟨_, rfl, ?_⟩
  refine hK.out _ _ ⟨hHeld.1, hHeld.2.1, hHeld.2.2⟩ (fun hHeld => ?_)
  clear hK K
  refine norm_ (a' := ?_) ?_ ?_
  rotate_left
  · show Act.put _ (some 6) _ = _
    simp only [Act.put, List.setIfInBounds_toArray, List.set_cons_zero, List.set_cons_succ, i64_w, i32_w]
    rfl
  refine pure_ (i := 5) (N := some 10) (v := ?_) (a' := ?_) #[true, true, true, true, true, true, false, false, false, false, false, false, false, false, false, false, false, false, false, false, false, false] rfl rfl (any_of HT_.out (by kernel_rfl)) (fun _ _ _ h => h) (Or.inl ⟨by rfl, ?_⟩) ?_ ?_
  rotate_left
  · intro w'
    go_simp
    with_reducible rfl
  rotate_left
  · simp only [Act.put, List.setIfInBounds_toArray, List.set_cons_zero, List.set_cons_succ, i64_w, i32_w]
    rfl
  refine pure_ (i := 6) (N := some 11) (v := ?_) (a' := ?_) #[true, true, true, true, true, true, true, false, false, false, false, false, false, false, false, false, false, false, false, false, false, false] rfl rfl (any_of HT_.out (by kernel_rfl)) (fun _ _ _ h => h) (Or.inl ⟨by rfl, ?_⟩) ?_ ?_
  rotate_left
  · intro w'
    go_simp
    with_reducible rfl
  rotate_left
  · simp only [Act.put, List.setIfInBounds_toArray, List.set_cons_zero, List.set_cons_succ, i64_w, i32_w]
    rfl
  refine pure_ (i := 7) (N := some 12) (v := ?_) (a' := ?_) #[true, true, true, true, true, true, true, true, false, false, false, false, false, false, false, false, false, false, false, false, false, false] rfl rfl (any_of HT_.out (by kernel_rfl)) (fun _ _ _ h => h) (Or.inl ⟨by rfl, ?_⟩) ?_ ?_
  rotate_left
  · intro w'
    go_simp
    with_reducible rfl
  rotate_left
  · simp only [Act.put, List.setIfInBounds_toArray, List.set_cons_zero, List.set_cons_succ, i64_w, i32_w]
    rfl
  refine pure_ (i := 9) (N := some 14) (v := ?_) (a' := ?_) #[true, true, true, true, true, true, true, true, false, true, false, false, false, false, false, false, false, false, false, false, false, false] rfl rfl (any_of HT_.out (by kernel_rfl)) (fun _ _ _ h => h) (Or.inl ⟨by rfl, ?_⟩) ?_ ?_
  rotate_left
  · intro w'
    go_simp
    with_reducible rfl
  rotate_left
  · simp only [Act.put, List.setIfInBounds_toArray, List.set_cons_zero, List.set_cons_succ, i64_w, i32_w]
    rfl
  refine take_ (i := 10) (N := some 15) (v := ?_) (a' := ?_) #[true, true, true, true, true, true, true, true, false, true, true, false, false, false, false, false, false, false, false, false, false, false] rfl rfl (take_ofW HT_.out HW_.out (by kernel_rfl)) (fun _ _ _ h => h) (Or.inl ⟨by rfl, ?_⟩) hHeld ?_ ?_
  rotate_left
  · rintro w' ⟨s0, s1, s2⟩
    go_simp
    with_reducible rfl
  rotate_left
  · simp only [Act.put, List.setIfInBounds_toArray, List.set_cons_zero, List.set_cons_succ, i64_w, i32_w]
    rfl
  refine one_ (i := 8) (N := some 13) #[true, true, true, true, true, true, true, true, true, true, true, false, false, false, false, false, false, false, false, false, false, false] rfl rfl (one_of HT_.out (by kernel_rfl)) (by decide) (fun K hK => ?_)
  refine goes_ Try.func29 (by kernel_rfl) rfl #[.pointer (some ⟨p, 0, none⟩)] (by rfl) rfl rfl (by simp only [List.map_toArray, List.map_cons, List.map_nil]; rfl) ?_
  with_reducible refine (roomI_calls HS2.out).mono ?_
  rintro e w3 ⟨rfl, rfl⟩
  refine ⟨_, rfl, ?_⟩
  refine hK.out _ _ ⟨hHeld.1, hHeld.2.1, hHeld.2.2⟩ (fun hHeld => ?_)
  clear hK K
  refine norm_ (a' := ?_) ?_ ?_
  rotate_left
  · show Act.put _ (some 13) _ = _
    simp only [Act.put, List.setIfInBounds_toArray, List.set_cons_zero, List.set_cons_succ, i64_w, i32_w]
    rfl
  refine pure_ (i := 11) (N := some 16) (v := ?_) (a' := ?_) #[true, true, true, true, true, true, true, true, true, true, true, true, false, false, false, false, false, false, false, false, false, false] rfl rfl (any_of HT_.out (by kernel_rfl)) (fun _ _ _ h => h) (Or.inl ⟨by rfl, ?_⟩) ?_ ?_
  rotate_left
  · intro w'
    go_simp
    with_reducible rfl
  rotate_left
  · simp only [Act.put, List.setIfInBounds_toArray, List.set_cons_zero, List.set_cons_succ, i64_w, i32_w]
    rfl
  refine pure_ (i := 12) (N := some 17) (v := ?_) (a' := ?_) #[true, true, true, true, true, true, true, true, true, true, true, true, true, false, false, false, false, false, false, false, false, false] rfl rfl (any_of HT_.out (by kernel_rfl)) (fun _ _ _ h => h) (Or.inl ⟨by rfl, ?_⟩) ?_ ?_
  rotate_left
  · intro w'
    go_simp
    with_reducible rfl
  rotate_left
  · simp only [Act.put, List.setIfInBounds_toArray, List.set_cons_zero, List.set_cons_succ, i64_w, i32_w]
    rfl
  refine pure_ (i := 13) (N := some 18) (v := ?_) (a' := ?_) #[true, true, true, true, true, true, true, true, true, true, true, true, true, true, false, false, false, false, false, false, false, false] rfl rfl (any_of HT_.out (by kernel_rfl)) (fun _ _ _ h => h) (Or.inl ⟨by rfl, ?_⟩) ?_ ?_
  rotate_left
  · intro w'
    go_simp
    with_reducible rfl
  rotate_left
  · simp only [Act.put, List.setIfInBounds_toArray, List.set_cons_zero, List.set_cons_succ, i64_w, i32_w]
    rfl
  refine pure_ (i := 14) (N := some 19) (v := ?_) (a' := ?_) #[true, true, true, true, true, true, true, true, true, true, true, true, true, true, true, false, false, false, false, false, false, false] rfl rfl (any_of HT_.out (by kernel_rfl)) (fun _ _ _ h => h) (Or.inl ⟨by rfl, ?_⟩) ?_ ?_
  rotate_left
  · intro w'
    go_simp
    with_reducible rfl
  rotate_left
  · simp only [Act.put, List.setIfInBounds_toArray, List.set_cons_zero, List.set_cons_succ, i64_w, i32_w]
    rfl
  refine pure_ (i := 16) (N := some 21) (v := ?_) (a' := ?_) #[true, true, true, true, true, true, true, true, true, true, true, true, true, true, true, false, true, false, false, false, false, false] rfl rfl (any_of HT_.out (by kernel_rfl)) (fun _ _ _ h => h) (Or.inl ⟨by rfl, ?_⟩) ?_ ?_
  rotate_left
  · intro w'
    go_simp
    with_reducible rfl
  rotate_left
  · simp only [Act.put, List.setIfInBounds_toArray, List.set_cons_zero, List.set_cons_succ, i64_w, i32_w]
    rfl
  refine take_ (i := 17) (N := some 22) (v := ?_) (a' := ?_) #[true, true, true, true, true, true, true, true, true, true, true, true, true, true, true, false, true, true, false, false, false, false] rfl rfl (take_ofW HT_.out HW_.out (by kernel_rfl)) (fun _ _ _ h => h) (Or.inl ⟨by rfl, ?_⟩) hHeld ?_ ?_
  rotate_left
  · rintro w' ⟨s0, s1, s2⟩
    go_simp
    with_reducible rfl
  rotate_left
  · simp only [Act.put, List.setIfInBounds_toArray, List.set_cons_zero, List.set_cons_succ, i64_w, i32_w]
    rfl
  refine pure_ (i := 18) (N := some 23) (v := ?_) (a' := ?_) #[true, true, true, true, true, true, true, true, true, true, true, true, true, true, true, false, true, true, true, false, false, false] rfl rfl (any_of HT_.out (by kernel_rfl)) (fun _ _ _ h => h) (Or.inl ⟨by rfl, ?_⟩) ?_ ?_
  rotate_left
  · intro w'
    go_simp
    with_reducible rfl
  rotate_left
  · simp only [Act.put, List.setIfInBounds_toArray, List.set_cons_zero, List.set_cons_succ, i64_w, i32_w]
    rfl
  refine one_ (i := 15) (N := some 20) #[true, true, true, true, true, true, true, true, true, true, true, true, true, true, true, true, true, true, true, false, false, false] rfl rfl (one_of HT_.out (by kernel_rfl)) (by decide) (fun K hK => ?_)
  refine goes_ Try.func11 (by kernel_rfl) rfl #[.pointer (some ⟨p, 0, none⟩)] (by rfl) rfl rfl (by simp only [List.map_toArray, List.map_cons, List.map_nil]; rfl) ?_
  with_reducible refine (openI_calls HS2.out).mono ?_
  rintro e w3 ⟨rfl, rfl⟩
  refine ⟨_, rfl, ?_⟩
  refine hK.out _ _ ⟨hHeld.1, hHeld.2.1, hHeld.2.2⟩ (fun hHeld => ?_)
  clear hK K
  refine norm_ (a' := ?_) ?_ ?_
  rotate_left
  · show Act.put _ (some 20) _ = _
    simp only [Act.put, List.setIfInBounds_toArray, List.set_cons_zero, List.set_cons_succ, i64_w, i32_w]
    rfl
  refine pure_ (i := 19) (N := some 24) (v := ?_) (a' := ?_) #[true, true, true, true, true, true, true, true, true, true, true, true, true, true, true, true, true, true, true, true, false, false] rfl rfl (any_of HT_.out (by kernel_rfl)) (fun _ _ _ h => h) (Or.inl ⟨by rfl, ?_⟩) ?_ ?_
  rotate_left
  · intro w'
    go_simp
    with_reducible rfl
  rotate_left
  · simp only [Act.put, List.setIfInBounds_toArray, List.set_cons_zero, List.set_cons_succ, i64_w, i32_w]
    rfl
  refine pure_ (i := 20) (N := some 25) (v := ?_) (a' := ?_) #[true, true, true, true, true, true, true, true, true, true, true, true, true, true, true, true, true, true, true, true, true, false] rfl rfl (any_of HT_.out (by kernel_rfl)) (fun _ _ _ h => h) (Or.inl ⟨by rfl, ?_⟩) ?_ ?_
  rotate_left
  · intro w'
    go_simp
    with_reducible rfl
  rotate_left
  · simp only [Act.put, List.setIfInBounds_toArray, List.set_cons_zero, List.set_cons_succ, i64_w, i32_w]
    rfl
  refine pure_ (i := 21) (N := some 4) (v := ?_) (a' := ?_) #[true, true, true, true, true, true, true, true, true, true, true, true, true, true, true, true, true, true, true, true, true, true] rfl rfl (any_of HT_.out (by kernel_rfl)) (fun _ _ _ h => h) (Or.inl ⟨by rfl, ?_⟩) ?_ ?_
  rotate_left
  · intro w'
    go_simp
    with_reducible rfl
  rotate_left
  · simp only [Act.put, List.setIfInBounds_toArray, List.set_cons_zero, List.set_cons_succ, i64_w, i32_w]
    rfl
  refine done_ (done_of HT_.out (by kernel_rfl)) ?_
  go_wp2
  go_ret
  exact ⟨rfl, HB2.out⟩

theorem results_cct {P : Program} {fn : Func} {p p' u : Tmp} {ty ty' : TypeId} (h : fn.results = #[.cell p ty, .cell p' ty', .tmp u]) (tmps : Array Value) (w : World) (g g' : Nat) (t t' : TypeId) (cs cs' : Array Value) (fr fr' : Nat × Nat) (d d' : TypeDesc)
    (hp : tmps.getD p undef = .pointer (some ⟨g, 0, none⟩)) (hg : w.heap[g]? = some (.cells cs t fr))
    (hu : P.underlying ty = some d) (hd : (match d with | .struct _ | .array _ _ => true | _ => false) = true) (hi : (P.info? ty).map (·.size) = some cs.size)
    (hp' : tmps.getD p' undef = .pointer (some ⟨g', 0, none⟩)) (hg' : w.heap[g']? = some (.cells cs' t' fr'))
    (hu' : P.underlying ty' = some d') (hd' : (match d' with | .struct _ | .array _ _ => true | _ => false) = true) (hi' : (P.info? ty').map (·.size) = some cs'.size) :
    (results fn tmps).run P w = .ok (.tuple #[.agg cs, .agg cs', tmps.getD u undef]) w := by
  have h1 : tmps[p]?.getD undef = .pointer (some ⟨g, 0, none⟩) := by simpa using hp
  have h2 : tmps[p']?.getD undef = .pointer (some ⟨g', 0, none⟩) := by simpa using hp'
  simp [results, h, h1, h2, asAddr, run_loadVar_row w g t ty cs fr d hg hu hd hi, run_loadVar_row w g' t' ty' cs' fr' d' hg' hu' hd' hi']
/-- A slice that reads so; of its row's block ok holds. -/
def ROp (W : World) (ok : Nat → Prop) (v : Value) (xs : List Int) : Prop := ∃ A cc, v = .slice A xs.length cc ∧ xs.length ≤ cc ∧ Kd.C (Kd.int .i64) W A xs.length xs ∧ ∀ a, A = some a → ok a.block ∧ a.block < W.heap.size
section
variable {W W2 : World} {B : Nat} {v : Value} {xs : List Int} {ok ok2 : Nat → Prop} {S : Nat → Prop}
theorem RO.toP (h : RO W B v xs) : ROp W (fun k => B ≤ k ∧ k < W.heap.size) v xs := by
  obtain ⟨A, cc, rfl, hl, hC, hA⟩ := h
  exact ⟨A, cc, rfl, hl, hC, fun a ha => ⟨hA a ha, (hA a ha).2⟩⟩
theorem ROp.mono (h : ROp W ok v xs) (hk : ∀ k, ok k → ok2 k) : ROp W ok2 v xs := by
  obtain ⟨A, cc, rfl, hl, hC, hA⟩ := h
  exact ⟨A, cc, rfl, hl, hC, fun a ha => ⟨hk _ (hA a ha).1, (hA a ha).2⟩⟩
theorem ROp.toRO (h : ROp W ok v xs) (hk : ∀ k, ok k → B ≤ k) : RO W B v xs := by
  obtain ⟨A, cc, rfl, hl, hC, hA⟩ := h
  exact ⟨A, cc, rfl, hl, hC, fun a ha => ⟨hk _ (hA a ha).1, (hA a ha).2⟩⟩
theorem ROp.kept (h : ROp W ok v xs) (hk : Kept W W2 S) (hs : ∀ k, ok k → ¬ S k) : ROp W2 ok v xs := by
  obtain ⟨A, cc, rfl, hl, hC, hA⟩ := h
  refine ⟨A, cc, rfl, hl, ⟨hC.1, hC.2.1, fun hn => ?_⟩, fun a ha => ⟨(hA a ha).1, Nat.lt_of_lt_of_le (hA a ha).2 hk.1⟩⟩
  obtain ⟨ad, e, hc⟩ := hC.2.2 hn
  refine ⟨ad, e, fun j p hj => ?_⟩
  obtain ⟨cs, h1, h2, h3⟩ := hc j p hj
  refine ⟨cs, h1, h2, fun i u hu => ?_⟩
  have h5 : ∀ n, (ad.add n).block = ad.block := fun n => by unfold Addr.add; split <;> rfl
  exact cell_kept (h3 i u hu) hk (by rw [h5]; exact hs _ (hA ad e).1)
theorem ROp.below (h : ROp W ok v xs) (hb : Below W.heap.size W W2) : ROp W2 ok v xs := h.kept (Kept.of_below hb (fun _ => False)) (fun _ _ h => h)
theorem ROp.set (h : ROp W ok v xs) (g i : Nat) (u : Value) (hg : ¬ ok g) : ROp (W.setCell ⟨g, i, none⟩ u) ok v xs :=
  h.kept (S := fun k => k = g) ((Kept.refl W (fun k => k = g)).setCell (p := ⟨g, i, none⟩) (Or.inl rfl) u) (fun k hk e => hg (e ▸ hk))
theorem ROp.set3 (h : ROp W ok v xs) (g : Nat) (a b c : Value) (hg : ¬ ok g) : ROp (((W.setCell ⟨g, 0, none⟩ a).setCell ⟨g, 1, none⟩ b).setCell ⟨g, 2, none⟩ c) ok v xs := ((h.set g 0 a hg).set g 1 b hg).set g 2 c hg
end
theorem cut_dropP {W : World} {ok : Nat → Prop} {xs : List Int} (A : Option Addr) (n c m : Nat) (hm : m ≤ n) (hn : xs.length = n) (hc : n ≤ c) (hC : Kd.C (Kd.int .i64) W A n xs) (hA : ∀ a, A = some a → ok a.block ∧ a.block < W.heap.size) :
    ∃ A1, (∀ U : World, (Instr.slice 22 (.slice A n c) (some (.int .i64 (m : Int))) none none).run Try.prog U = .ok (.slice A1 (n - m) (c - m)) U) ∧ ROp W ok (.slice A1 (n - m) (c - m)) (xs.drop m) := by
  obtain ⟨i, hi, hs⟩ := type3
  have h := cut_from (P := Try.prog) 22 3 .i64 Try.underlying22 hi 1 hs A n c (m : Int) (by omega) (by omega)
  simp only [Int.toNat_natCast, Nat.mul_one] at h
  refine ⟨_, h, ?_⟩
  subst hn
  have h2 := Kd.C_drop (c := c) hC hm hc
  have hl : (xs.drop m).length = xs.length - m := List.length_drop
  rw [hl] at h2
  simp only [show (Kd.int .i64).sz = 1 from rfl, Nat.mul_one] at h2
  rw [← hl] at h2 ⊢
  refine ⟨_, _, rfl, by rw [hl]; omega, h2, fun a ha => ?_⟩
  split at ha
  · exact hA a ha
  · cases A with
    | none => simp at ha
    | some b =>
      simp at ha
      subst ha
      have : (b.add m).block = b.block := by unfold Addr.add; split <;> rfl
      rw [this]
      exact hA b rfl
theorem cell_up {w : World} {o : Obj} {a : Addr} {v : Value} (h : w.cell? a = some v) : (w.alloc o).cell? a = some v := (World.cell?_alloc_lt _ _ _ (World.block_lt_of_cell? _ _ h)).trans h
theorem ROp.lt {W : World} {ok : Nat → Prop} {v : Value} {xs : List Int} (h : ROp W ok v xs) : ROp W (fun k => ok k ∧ k < W.heap.size) v xs := by
  obtain ⟨A, cc, rfl, hl, hC, hA⟩ := h
  exact ⟨A, cc, rfl, hl, hC, fun a ha => ⟨hA a ha, (hA a ha).2⟩⟩
/-- A block made and filled. -/
theorem new3 (W : World) (a b c a' b' c' : Value) (t : TypeId) : Below W.heap.size W ((((W.alloc (.cells #[a, b, c] t)).setCell ⟨W.heap.size, 0, none⟩ a').setCell ⟨W.heap.size, 1, none⟩ b').setCell ⟨W.heap.size, 2, none⟩ c') ∧
    ((((W.alloc (.cells #[a, b, c] t)).setCell ⟨W.heap.size, 0, none⟩ a').setCell ⟨W.heap.size, 1, none⟩ b').setCell ⟨W.heap.size, 2, none⟩ c').heap[W.heap.size]? = some (.cells #[a', b', c'] t (0, 0)) :=
  ⟨below3 (below_alloc (Below.refl _ _) _) (Nat.le_refl _), put3 (blk_new W _)⟩
theorem far3 {W : World} {g g' : Nat} {t : TypeId} {cs : Array Value} (h : W.heap[g]? = some (.cells cs t (0, 0))) (hne : g ≠ g') (a b c : Value) : (((W.setCell ⟨g', 0, none⟩ a).setCell ⟨g', 1, none⟩ b).setCell ⟨g', 2, none⟩ c).heap[g]? = some (.cells cs t (0, 0)) :=
  blk_far (blk_far (blk_far h hne a) hne b) hne c
theorem four_new (W : World) (a b z : Array Value) (t : TypeId) : ∃ g1 g2 g3 g4, g1 = W.heap.size ∧ g2 = W.heap.size + 1 ∧ g3 = W.heap.size + 1 + 1 ∧ g4 = W.heap.size + 1 + 1 + 1 ∧
    ((((W.alloc (.cells a t)).alloc (.cells b t)).alloc (.cells z t)).alloc (.cells z t)).heap[g1]? = some (.cells a t (0, 0)) ∧ ((((W.alloc (.cells a t)).alloc (.cells b t)).alloc (.cells z t)).alloc (.cells z t)).heap[g2]? = some (.cells b t (0, 0)) ∧
    ((((W.alloc (.cells a t)).alloc (.cells b t)).alloc (.cells z t)).alloc (.cells z t)).heap[g3]? = some (.cells z t (0, 0)) ∧ ((((W.alloc (.cells a t)).alloc (.cells b t)).alloc (.cells z t)).alloc (.cells z t)).heap[g4]? = some (.cells z t (0, 0)) ∧
    Below W.heap.size W ((((W.alloc (.cells a t)).alloc (.cells b t)).alloc (.cells z t)).alloc (.cells z t)) := by
  refine ⟨_, _, _, _, rfl, rfl, rfl, rfl, blk_alloc (blk_alloc (blk_alloc (blk_new W _) _) _) _, ?_, ?_, ?_, below_alloc (below_alloc (below_alloc (below_alloc (Below.refl _ _) _) _) _) _⟩
  · have := blk_new (W.alloc (.cells a t)) (.cells b t)
    exact blk_alloc (blk_alloc (by simpa using this) _) _
  · have := blk_new ((W.alloc (.cells a t)).alloc (.cells b t)) (.cells z t)
    exact blk_alloc (by simpa using this) _
  · have := blk_new (((W.alloc (.cells a t)).alloc (.cells b t)).alloc (.cells z t)) (.cells z t)
    simpa using this
set_option maxHeartbeats 4000000 in
set_option maxRecDepth 100000 in
theorem refMove_calls {W : World} {B : Nat} (Ra Rb : Nat) (ca cb : Bool) (va vb : Value) (xs ys : List Int) (most : Int) (ha : RO W B va xs) (hb : RO W B vb ys) (hB : B ≤ W.heap.size) (hx : xs.length ≤ 1024) (hy : ys.length ≤ Rb) (hR : Rb ≤ 1024) :
    Calls Try.prog 26 #[.agg #[va, .int .i64 (Ra : Int), .bool ca], .agg #[vb, .int .i64 (Rb : Int), .bool cb], .int .i64 most] W fun e w' => ∃ va' vb', e = .returned (.tuple #[.agg #[va', .int .i64 (Ra : Int), .bool ca], .agg #[vb', .int .i64 (Rb : Int), .bool cb], .int .i64 (movN xs.length (Rb - ys.length) cb most : Int)]) ∧
      RO w' B va' (xs.drop (movN xs.length (Rb - ys.length) cb most)) ∧ RO w' B vb' (ys ++ xs.take (movN xs.length (Rb - ys.length) cb most)) ∧ Below W.heap.size W w' := by
  obtain ⟨N, hN⟩ : ∃ N, movN xs.length (Rb - ys.length) cb most = N := ⟨_, rfl⟩
  rw [hN]
  have HN := Aside0.mk hN
  have HX : Aside0 (xs.length ≤ 1024 ∧ ys.length ≤ Rb ∧ Rb ≤ 1024 ∧ B ≤ W.heap.size) := ⟨hx, hy, hR, hB⟩
  have HA0 := Aside0.mk ha.toP
  have HB0 := Aside0.mk hb.toP
  clear hN hx hy hR hB
  obtain ⟨g1, g2, g3, g4, e1, e2, e3, e4, h1, h2, h3, h4, hbl⟩ := four_new W #[va, .int .i64 (Ra : Int), .bool ca] #[vb, .int .i64 (Rb : Int), .bool cb] #[.slice none 0 0, .int .i64 0, .bool false] 43
  have H1 := Aside0.mk h1
  have H2 := Aside0.mk h2
  have H3 := Aside0.mk h3
  have H4 := Aside0.mk h4
  have HB := Aside0.mk hbl
  have HG : Aside0 (W.heap.size ≤ g1 ∧ W.heap.size ≤ g2 ∧ W.heap.size ≤ g3 ∧ W.heap.size ≤ g4 ∧ g1 ≠ g2 ∧ g1 ≠ g3 ∧ g1 ≠ g4 ∧ g2 ≠ g3 ∧ g2 ≠ g4 ∧ g3 ≠ g4) := ⟨by omega⟩
  clear h1 h2 h3 h4 ha hb
  go_enter Try.func26, Try.ntmps26
  go_upto_block 0 with (fail)
  rw [← e4, ← e3, ← e2, ← e1]
  generalize (((W.alloc (.cells #[va, .int .i64 (Ra : Int), .bool ca] 43)).alloc (.cells #[vb, .int .i64 (Rb : Int), .bool cb] 43)).alloc (.cells #[.slice none 0 0, .int .i64 0, .bool false] 43)).alloc (.cells #[.slice none 0 0, .int .i64 0, .bool false] 43) = w1 at H1 H2 H3 H4 HB ⊢
  have HA : Aside0 (ROp w1 (fun k => B ≤ k ∧ k ≠ g1 ∧ k ≠ g2 ∧ k ≠ g3 ∧ k ≠ g4) va (xs.drop 0)) := ⟨(HA0.out.below HB.out).mono (fun k hk => by omega)⟩
  have HV : Aside0 (ROp w1 (fun k => B ≤ k ∧ k ≠ g1 ∧ k ≠ g2 ∧ k ≠ g3 ∧ k ≠ g4) vb (ys ++ xs.take 0)) := ⟨by rw [List.take_zero, List.append_nil]; exact (HB0.out.below HB.out).mono (fun k hk => by omega)⟩
  clear HA0 HB0 e1 e2 e3 e4 hbl
  go_cut [9] (fun v9 wc => ∃ (va vb : Value), v9 = .int .i64 (N : Int) ∧ Aside0 (wc.heap[g1]? = some (.cells #[va, .int .i64 (Ra : Int), .bool ca] 43 (0, 0))) ∧ Aside0 (wc.heap[g2]? = some (.cells #[vb, .int .i64 (Rb : Int), .bool cb] 43 (0, 0))) ∧ Aside0 (wc.heap[g3]? = some (.cells #[.slice none 0 0, .int .i64 0, .bool false] 43 (0, 0))) ∧ Aside0 (wc.heap[g4]? = some (.cells #[.slice none 0 0, .int .i64 0, .bool false] 43 (0, 0))) ∧ Aside0 (ROp wc (fun k => B ≤ k ∧ k ≠ g1 ∧ k ≠ g2 ∧ k ≠ g3 ∧ k ≠ g4) va (xs.drop N)) ∧ Aside0 (ROp wc (fun k => B ≤ k ∧ k ≠ g1 ∧ k ≠ g2 ∧ k ≠ g3 ∧ k ≠ g4) vb (ys ++ xs.take N)) ∧ Aside0 (Below W.heap.size W wc))
  case first =>
    go_wp2
    go_loopg [9] N (fun kq v9 w' => ∃ (m : Nat) (va vb : Value), v9 = .int .i64 (m : Int) ∧ Aside0 (m + kq = N) ∧ Aside0 (w'.heap[g1]? = some (.cells #[va, .int .i64 (Ra : Int), .bool ca] 43 (0, 0))) ∧ Aside0 (w'.heap[g2]? = some (.cells #[vb, .int .i64 (Rb : Int), .bool cb] 43 (0, 0))) ∧ Aside0 (w'.heap[g3]? = some (.cells #[.slice none 0 0, .int .i64 0, .bool false] 43 (0, 0))) ∧ Aside0 (w'.heap[g4]? = some (.cells #[.slice none 0 0, .int .i64 0, .bool false] 43 (0, 0))) ∧ Aside0 (ROp w' (fun k => B ≤ k ∧ k ≠ g1 ∧ k ≠ g2 ∧ k ≠ g3 ∧ k ≠ g4) va (xs.drop m)) ∧ Aside0 (ROp w' (fun k => B ≤ k ∧ k ≠ g1 ∧ k ≠ g2 ∧ k ≠ g3 ∧ k ≠ g4) vb (ys ++ xs.take m)) ∧ Aside0 (Below W.heap.size W w'))
    case atStart => exact ⟨0, va, vb, rfl, ⟨by omega⟩, H1, H2, H3, H4, HA, HV, HB⟩
    case round =>
      clear H1 H2 H3 H4 HA HV HB
      obtain ⟨m, va, vb, rfl, HI, H1, H2, H3, H4, HA, HV, HB⟩ := hrel
      obtain ⟨A, cc, hva, hl, hC, hA⟩ := HA.out
      have hdl : (xs.drop m).length = xs.length - m := List.length_drop
      rw [hdl] at hva hl hC
      subst hva
      have HCA := Aside0.mk (And.intro hl (And.intro hC hA))
      clear hl hC hA
      have cg10 : wr.cell? ⟨g1, 0, none⟩ = some (.slice A (xs.length - m) cc) := (blk_cell H1.out 0).trans rfl
      have fg10 : wr.frozen? ⟨g1, 0, none⟩ = false := blk_frozen H1.out 0
      have cg11 : wr.cell? ⟨g1, 1, none⟩ = some (.int .i64 (Ra : Int)) := (blk_cell H1.out 1).trans rfl
      have fg11 : wr.frozen? ⟨g1, 1, none⟩ = false := blk_frozen H1.out 1
      have cg12 : wr.cell? ⟨g1, 2, none⟩ = some (.bool ca) := (blk_cell H1.out 2).trans rfl
      have fg12 : wr.frozen? ⟨g1, 2, none⟩ = false := blk_frozen H1.out 2
      have cg20 : wr.cell? ⟨g2, 0, none⟩ = some (vb) := (blk_cell H2.out 0).trans rfl
      have fg20 : wr.frozen? ⟨g2, 0, none⟩ = false := blk_frozen H2.out 0
      have cg21 : wr.cell? ⟨g2, 1, none⟩ = some (.int .i64 (Rb : Int)) := (blk_cell H2.out 1).trans rfl
      have fg21 : wr.frozen? ⟨g2, 1, none⟩ = false := blk_frozen H2.out 1
      have cg22 : wr.cell? ⟨g2, 2, none⟩ = some (.bool cb) := (blk_cell H2.out 2).trans rfl
      have fg22 : wr.frozen? ⟨g2, 2, none⟩ = false := blk_frozen H2.out 2
      have cg30 : wr.cell? ⟨g3, 0, none⟩ = some (.slice none 0 0) := (blk_cell H3.out 0).trans rfl
      have fg30 : wr.frozen? ⟨g3, 0, none⟩ = false := blk_frozen H3.out 0
      have cg31 : wr.cell? ⟨g3, 1, none⟩ = some (.int .i64 0) := (blk_cell H3.out 1).trans rfl
      have fg31 : wr.frozen? ⟨g3, 1, none⟩ = false := blk_frozen H3.out 1
      have cg32 : wr.cell? ⟨g3, 2, none⟩ = some (.bool false) := (blk_cell H3.out 2).trans rfl
      have fg32 : wr.frozen? ⟨g3, 2, none⟩ = false := blk_frozen H3.out 2
      have cg40 : wr.cell? ⟨g4, 0, none⟩ = some (.slice none 0 0) := (blk_cell H4.out 0).trans rfl
      have fg40 : wr.frozen? ⟨g4, 0, none⟩ = false := blk_frozen H4.out 0
      have cg41 : wr.cell? ⟨g4, 1, none⟩ = some (.int .i64 0) := (blk_cell H4.out 1).trans rfl
      have fg41 : wr.frozen? ⟨g4, 1, none⟩ = false := blk_frozen H4.out 1
      have cg42 : wr.cell? ⟨g4, 2, none⟩ = some (.bool false) := (blk_cell H4.out 2).trans rfl
      have fg42 : wr.frozen? ⟨g4, 2, none⟩ = false := blk_frozen H4.out 2
      by_cases e0 : most ≤ (m : Int)
      · have hm : m = N := by
          have h := HN.out; have := HI.out; unfold movN at h
          split at h <;> omega
        subst hm
        have e0b : decide ((m : Int) < most) = false := decide_eq_false (by omega); have e0i : ((m : Int) < most) = False := eq_false (by omega)
        clear e0
        go_wp2
        go_meet
        case rel => exact ⟨_, vb, rfl, H1, H2, H3, H4, HA, HV, HB⟩
      have e0b : decide ((m : Int) < most) = true := decide_eq_true (by omega); have e0i : ((m : Int) < most) = True := eq_true (by omega)
      by_cases e1 : xs.length ≤ m
      · have hm : m = N := by
          have h := HN.out; have := HI.out; unfold movN at h
          split at h <;> omega
        subst hm
        have hz : xs.length - m = 0 := by omega
        rw [hz] at cg10 HCA H1 HA
        clear e0 e1
        go_wp2
        go_meet
        case rel => exact ⟨_, vb, rfl, H1, H2, H3, H4, HA, HV, HB⟩
      obtain ⟨L, hL⟩ : ∃ L, xs.length - m = L + 1 := ⟨xs.length - m - 1, by omega⟩
      rw [hL] at cg10 HCA H1 HA
      have HL : Aside0 (m < xs.length ∧ L = xs.length - m - 1) := ⟨by omega⟩
      obtain ⟨ad, ea, he⟩ := Kd.at_int HCA.out.2.1 0 (by omega) (by omega)
      subst ea
      have hx0 : rd (xs.drop m) 0 = rd xs (m : Int) := by simp [rd]
      have he' : wr.cell? ad = some (.int .i64 (rd xs (m : Int))) := by rw [← hx0]; simpa [Addr.add] using he
      have e1i : ((0 : Int) < (L : Int) + 1) = True := eq_true (by omega)
      clear he hx0
      go_upto_region 3 with (fail)
      have HLE : Aside0 ((ys ++ xs.take m).length = ys.length + m) := ⟨by rw [List.length_append, List.length_take]; have := HL.out; omega⟩
      obtain ⟨Ab, kb, hvb⟩ : ∃ Ab kb, vb = .slice Ab (ys.length + m) kb := by obtain ⟨Ab, kb, e, _⟩ := HV.out; rw [HLE.out] at e; exact ⟨Ab, kb, e⟩
      subst hvb
      have hbd : Below wr.heap.size wr wr.drew := below_drew (Below.refl _ _)
      have H1 := Aside0.mk (blk_below H1.out hbd)
      have H2 := Aside0.mk (blk_below H2.out hbd)
      have H3 := Aside0.mk (blk_below H3.out hbd)
      have H4 := Aside0.mk (blk_below H4.out hbd)
      have HA := Aside0.mk (HA.out.below hbd)
      have HV := Aside0.mk (HV.out.below hbd)
      have HB := Aside0.mk (below_then HB.out HB.out.size hbd)
      clear hbd
      have HVR : Aside0 (RO wr.drew B (.slice Ab (ys.length + m) kb) (ys ++ xs.take m)) := ⟨HV.out.toRO (fun k hk => hk.1)⟩
      have HSZ : Aside0 (g1 < wr.drew.heap.size ∧ g2 < wr.drew.heap.size ∧ g3 < wr.drew.heap.size ∧ g4 < wr.drew.heap.size) := ⟨blk_lt H1.out, blk_lt H2.out, blk_lt H3.out, blk_lt H4.out⟩
      by_cases hput : cb = true ∨ (cb = false ∧ Rb ≤ (ys ++ xs.take m).length)
      · have HNO := Aside0.mk hput
        have hm : m = N := by
          have h := HN.out; have := HI.out; have := HLE.out; unfold movN at h
          rcases hput with hp | ⟨hp, hp2⟩
          · rw [if_pos hp] at h; omega
          · rw [if_neg (by rw [hp]; decide)] at h; omega
        subst hm
        clear hput e0 e1
        refine start_ (n := 12) (S := fun w' => w'.cell? ⟨g2, 0, none⟩ = some ((.slice Ab (ys.length + m) kb)) ∧ w'.cell? ⟨g2, 1, none⟩ = some (.int .i64 (Rb : Int)) ∧ w'.cell? ⟨g2, 2, none⟩ = some (.bool cb) ∧ w'.cell? ⟨g1, 0, none⟩ = some (.slice (some ad) (L + 1) cc) ∧ w'.cell? ad = some (.int .i64 (rd xs (m : Int)))) (ds := [10]) #[false, false, false, false, false, false, false, false, false, false, false, false] (by kernel_rfl) rfl rfl ⟨cg20, cg21, cg22, cg10, he'⟩ (fun hHeld => ?_); refine with_tabW tab_f26.tab3 tab_f26.bits3 (fun HT_ HW_ => ?_)
        generalize wr.drew = w2 at H1 H2 H3 H4 HA HV HB HVR HSZ hHeld ⊢
        refine pure_ (i := 1) (N := some 23) (v := ?_) (a' := ?_) #[false, true, false, false, false, false, false, false, false, false, false, false] rfl rfl (any_of HT_.out (by kernel_rfl)) (fun _ _ _ h => h) (Or.inl ⟨by rfl, ?_⟩) ?_ ?_
        rotate_left
        · intro w'
          go_simp
          with_reducible rfl
        rotate_left
        · simp only [Act.put, List.setIfInBounds_toArray, List.set_cons_zero, List.set_cons_succ, i64_w, i32_w]
          rfl
        refine take_ (i := 0) (N := some 22) (v := ?_) (a' := ?_) #[true, true, false, false, false, false, false, false, false, false, false, false] rfl rfl (take_ofW HT_.out HW_.out (by kernel_rfl)) (fun _ _ _ h => h) (Or.inl ⟨by rfl, ?_⟩) hHeld ?_ ?_
        rotate_left
        · rintro w' ⟨s0, s1, s2, s3, s4⟩
          go_simp
          with_reducible rfl
        rotate_left
        · simp only [Act.put, List.setIfInBounds_toArray, List.set_cons_zero, List.set_cons_succ, i64_w, i32_w]
          rfl
        refine take_ (i := 2) (N := some 24) (v := ?_) (a' := ?_) #[true, true, true, false, false, false, false, false, false, false, false, false] rfl rfl (take_ofW HT_.out HW_.out (by kernel_rfl)) (fun _ _ _ h => h) (Or.inl ⟨by rfl, ?_⟩) hHeld ?_ ?_
        rotate_left
        · rintro w' ⟨s0, s1, s2, s3, s4⟩
          go_simp
          with_reducible rfl
        rotate_left
        · simp only [Act.put, List.setIfInBounds_toArray, List.set_cons_zero, List.set_cons_succ, i64_w, i32_w]
          rfl
        refine pure_ (i := 3) (N := some 25) (v := ?_) (a' := ?_) #[true, true, true, true, false, false, false, false, false, false, false, false] rfl rfl (any_of HT_.out (by kernel_rfl)) (fun _ _ _ h => h) (Or.inl ⟨by rfl, ?_⟩) ?_ ?_
        rotate_left
        · intro w'
          go_simp
          with_reducible rfl
        rotate_left
        · simp only [Act.put, List.setIfInBounds_toArray, List.set_cons_zero, List.set_cons_succ, i64_w, i32_w]
          rfl
        refine take_ (i := 4) (N := some 26) (v := ?_) (a' := ?_) #[true, true, true, true, true, false, false, false, false, false, false, false] rfl rfl (take_ofW HT_.out HW_.out (by kernel_rfl)) (fun _ _ _ h => h) (Or.inl ⟨by rfl, ?_⟩) hHeld ?_ ?_
        rotate_left
        · rintro w' ⟨s0, s1, s2, s3, s4⟩
          go_simp
          with_reducible rfl
        rotate_left
        · simp only [Act.put, List.setIfInBounds_toArray, List.set_cons_zero, List.set_cons_succ, i64_w, i32_w]
          rfl
        refine join_ (σ := Nat) 2 #[true, true, true, true, true, true, true, true, true, true, false, false] (fun s => [(27, .tuple #[.agg #[(.slice Ab (ys.length + m) kb), .int .i64 (Rb : Int), .bool cb], .bool false]), (21, .tuple #[.agg #[(.slice Ab (ys.length + m) kb), .int .i64 (Rb : Int), .bool cb], .bool false]), (28, .agg #[(.slice Ab (ys.length + m) kb), .int .i64 (Rb : Int), .bool cb]), (29, .bool false), (10, .pointer (some ⟨s, 0, none⟩))]) (fun s w' => w'.heap[s]? = some (.cells #[.slice none 0 0, .int .i64 0, .bool false] 43 (0, 0)) ∧ Below w2.heap.size w2 w' ∧ w2.heap.size ≤ s) ?_ ?_
        rotate_left
        · intro hCont
          refine two_ (i := 5) (j := 9) (Ni := some 27) (Nj := some 10) #[true, true, true, true, true, true, false, false, false, false, false, false] #[true, true, true, true, true, false, false, false, false, true, false, false] rfl rfl rfl rfl (two_of HT_.out (by kernel_rfl)) (by decide) (by decide) (fun K hK => ?_) (fun K hK => ?_)
          · skip
            refine goes_ Try.func21 (by kernel_rfl) rfl #[.agg #[(.slice Ab (ys.length + m) kb), .int .i64 (Rb : Int), .bool cb], .int .i64 (rd xs (m : Int))] (by rfl) rfl rfl (by simp only [List.map_toArray, List.map_cons, List.map_nil]; rfl) ?_
            with_reducible refine (refPut_no Rb cb (rd xs (m : Int)) HVR.out HNO.out).mono ?_
            rintro e w4 ⟨rfl, hb4⟩
            refine ⟨_, rfl, ?_⟩
            refine hK.out _ _ ⟨(pw_cell_below hb4 hHeld.1), (pw_cell_below hb4 hHeld.2.1), (pw_cell_below hb4 hHeld.2.2.1), (pw_cell_below hb4 hHeld.2.2.2.1), (pw_cell_below hb4 hHeld.2.2.2.2)⟩ (fun hHeld => ?_)
            clear hK K
            refine norm_ (a' := ?_) ?_ ?_
            rotate_left
            · show Act.put _ (some 27) _ = _
              simp only [Act.put, List.setIfInBounds_toArray, List.set_cons_zero, List.set_cons_succ, i64_w, i32_w]
              rfl
            refine pure_ (i := 6) (N := some 21) (v := ?_) (a' := ?_) #[true, true, true, true, true, true, true, false, false, false, false, false] rfl rfl (any_of HT_.out (by kernel_rfl)) (fun _ _ _ h => h) (Or.inl ⟨by rfl, ?_⟩) ?_ ?_
            rotate_left
            · intro w'
              go_simp
              with_reducible rfl
            rotate_left
            · simp only [Act.put, List.setIfInBounds_toArray, List.set_cons_zero, List.set_cons_succ, i64_w, i32_w]
              rfl
            refine pure_ (i := 7) (N := some 28) (v := ?_) (a' := ?_) #[true, true, true, true, true, true, true, true, false, false, false, false] rfl rfl (any_of HT_.out (by kernel_rfl)) (fun _ _ _ h => h) (Or.inl ⟨by rfl, ?_⟩) ?_ ?_
            rotate_left
            · intro w'
              go_simp
              with_reducible rfl
            rotate_left
            · simp only [Act.put, List.setIfInBounds_toArray, List.set_cons_zero, List.set_cons_succ, i64_w, i32_w]
              rfl
            refine pure_ (i := 8) (N := some 29) (v := ?_) (a' := ?_) #[true, true, true, true, true, true, true, true, true, false, false, false] rfl rfl (any_of HT_.out (by kernel_rfl)) (fun _ _ _ h => h) (Or.inl ⟨by rfl, ?_⟩) ?_ ?_
            rotate_left
            · intro w'
              go_simp
              with_reducible rfl
            rotate_left
            · simp only [Act.put, List.setIfInBounds_toArray, List.set_cons_zero, List.set_cons_succ, i64_w, i32_w]
              rfl
            refine one_ (i := 9) (N := some 10) #[true, true, true, true, true, true, true, true, true, true, false, false] rfl rfl (one_of HT_.out (by kernel_rfl)) (by decide) (fun K hK => ?_)
            refine value_ (w1 := ?_) (v := ?_) (by rfl) rfl ?_ ?_
            rotate_left 2
            · go_simp
              constructor
              · rfl
              · rfl
            refine hK.out _ _ ⟨(cell_up hHeld.1), (cell_up hHeld.2.1), (cell_up hHeld.2.2.1), (cell_up hHeld.2.2.2.1), (cell_up hHeld.2.2.2.2)⟩ (fun hHeld => ?_)
            clear hK K
            refine norm_ (a' := ?_) ?_ ?_
            rotate_left
            · show Act.put _ (some 10) _ = _
              simp only [Act.put, List.setIfInBounds_toArray, List.set_cons_zero, List.set_cons_succ, i64_w, i32_w]
              rfl
            exact norm_ (by simp only [putAll, Act.put, List.setIfInBounds_toArray, List.set_cons_zero, List.set_cons_succ]) (hCont w4.heap.size _ ⟨blk_new w4 _, below_alloc hb4 _, hb4.size⟩)
          · skip
            refine value_ (w1 := ?_) (v := ?_) (by rfl) rfl ?_ ?_
            rotate_left 2
            · go_simp
              constructor
              · rfl
              · rfl
            have hz3 := blk_new w2 (.cells #[.slice none 0 0, .int .i64 0, .bool false] 43)
            have hb3 : Below w2.heap.size w2 (w2.alloc (.cells #[.slice none 0 0, .int .i64 0, .bool false] 43)) := below_alloc (Below.refl _ _) _
            refine hK.out _ _ ⟨(cell_up hHeld.1), (cell_up hHeld.2.1), (cell_up hHeld.2.2.1), (cell_up hHeld.2.2.2.1), (cell_up hHeld.2.2.2.2)⟩ (fun hHeld => ?_)
            clear hK K
            refine norm_ (a' := ?_) ?_ ?_
            rotate_left
            · show Act.put _ (some 10) _ = _
              simp only [Act.put, List.setIfInBounds_toArray, List.set_cons_zero, List.set_cons_succ, i64_w, i32_w]
              rfl
            refine one_ (i := 5) (N := some 27) #[true, true, true, true, true, true, false, false, false, true, false, false] rfl rfl (one_of HT_.out (by kernel_rfl)) (by decide) (fun K hK => ?_)
            refine goes_ Try.func21 (by kernel_rfl) rfl #[.agg #[(.slice Ab (ys.length + m) kb), .int .i64 (Rb : Int), .bool cb], .int .i64 (rd xs (m : Int))] (by rfl) rfl rfl (by simp only [List.map_toArray, List.map_cons, List.map_nil]; rfl) ?_
            with_reducible refine (refPut_no Rb cb (rd xs (m : Int)) (HVR.out.below hb3) HNO.out).mono ?_
            rintro e w4 ⟨rfl, hb4⟩
            refine ⟨_, rfl, ?_⟩
            refine hK.out _ _ ⟨(pw_cell_below hb4 hHeld.1), (pw_cell_below hb4 hHeld.2.1), (pw_cell_below hb4 hHeld.2.2.1), (pw_cell_below hb4 hHeld.2.2.2.1), (pw_cell_below hb4 hHeld.2.2.2.2)⟩ (fun hHeld => ?_)
            clear hK K
            refine norm_ (a' := ?_) ?_ ?_
            rotate_left
            · show Act.put _ (some 27) _ = _
              simp only [Act.put, List.setIfInBounds_toArray, List.set_cons_zero, List.set_cons_succ, i64_w, i32_w]
              rfl
            refine pure_ (i := 6) (N := some 21) (v := ?_) (a' := ?_) #[true, true, true, true, true, true, true, false, false, true, false, false] rfl rfl (any_of HT_.out (by kernel_rfl)) (fun _ _ _ h => h) (Or.inl ⟨by rfl, ?_⟩) ?_ ?_
            rotate_left
            · intro w'
              go_simp
              with_reducible rfl
            rotate_left
            · simp only [Act.put, List.setIfInBounds_toArray, List.set_cons_zero, List.set_cons_succ, i64_w, i32_w]
              rfl
            refine pure_ (i := 7) (N := some 28) (v := ?_) (a' := ?_) #[true, true, true, true, true, true, true, true, false, true, false, false] rfl rfl (any_of HT_.out (by kernel_rfl)) (fun _ _ _ h => h) (Or.inl ⟨by rfl, ?_⟩) ?_ ?_
            rotate_left
            · intro w'
              go_simp
              with_reducible rfl
            rotate_left
            · simp only [Act.put, List.setIfInBounds_toArray, List.set_cons_zero, List.set_cons_succ, i64_w, i32_w]
              rfl
            refine pure_ (i := 8) (N := some 29) (v := ?_) (a' := ?_) #[true, true, true, true, true, true, true, true, true, true, false, false] rfl rfl (any_of HT_.out (by kernel_rfl)) (fun _ _ _ h => h) (Or.inl ⟨by rfl, ?_⟩) ?_ ?_
            rotate_left
            · intro w'
              go_simp
              with_reducible rfl
            rotate_left
            · simp only [Act.put, List.setIfInBounds_toArray, List.set_cons_zero, List.set_cons_succ, i64_w, i32_w]
              rfl
            exact norm_ (by simp only [putAll, Act.put, List.setIfInBounds_toArray, List.set_cons_zero, List.set_cons_succ]) (hCont w2.heap.size _ ⟨blk_below hz3 hb4, below_then hb3 hb3.size hb4, Nat.le_refl _⟩)
        rintro g5 w6 ⟨hz6, hb6, hs6⟩
        have hHeld := (show w6.cell? ⟨g2, 0, none⟩ = some ((.slice Ab (ys.length + m) kb)) ∧ w6.cell? ⟨g2, 1, none⟩ = some (.int .i64 (Rb : Int)) ∧ w6.cell? ⟨g2, 2, none⟩ = some (.bool cb) ∧ w6.cell? ⟨g1, 0, none⟩ = some (.slice (some ad) (L + 1) cc) ∧ w6.cell? ad = some (.int .i64 (rd xs (m : Int))) from ⟨(pw_cell_below hb6 hHeld.1), (pw_cell_below hb6 hHeld.2.1), (pw_cell_below hb6 hHeld.2.2.1), (pw_cell_below hb6 hHeld.2.2.2.1), (pw_cell_below hb6 hHeld.2.2.2.2)⟩)
        have z0 : w6.cell? ⟨g5, 0, none⟩ = some (.slice none 0 0) := (blk_cell hz6 0).trans rfl
        have z1 : w6.cell? ⟨g5, 1, none⟩ = some (.int .i64 0) := (blk_cell hz6 1).trans rfl
        have z2 : w6.cell? ⟨g5, 2, none⟩ = some (.bool false) := (blk_cell hz6 2).trans rfl
        have y0 : w6.frozen? ⟨g5, 0, none⟩ = false := blk_frozen hz6 0
        have y1 : w6.frozen? ⟨g5, 1, none⟩ = false := blk_frozen hz6 1
        have y2 : w6.frozen? ⟨g5, 2, none⟩ = false := blk_frozen hz6 2
        have HZ6 := Aside0.mk hz6
        have HB6 := Aside0.mk hb6
        have HS6 := Aside0.mk hs6
        clear hz6 hb6 hs6
        refine norm_ (a' := ?_) ?_ ?_
        rotate_left
        · simp only [putAll, Act.put, List.setIfInBounds_toArray, List.set_cons_zero, List.set_cons_succ]
          rfl
        refine last_ (i := 10) (N := none) #[true, true, true, true, true, true, true, true, true, true, true, false] rfl rfl (one_of HT_.out (by kernel_rfl)) (by decide) (fun K hK => ?_)
        refine skip_ (w1 := ?_) (by rfl) rfl ?_ ?_
        rotate_left
        · go_simp
          rfl
        refine hK.out _ _ ?_
        clear hK K
        refine pure_ (i := 11) (N := some 11) (v := ?_) (a' := ?_) #[true, true, true, true, true, true, true, true, true, true, true, true] rfl rfl (any_of HT_.out (by kernel_rfl)) (fun _ _ _ h => h) (Or.inl ⟨by rfl, ?_⟩) ?_ ?_
        rotate_left
        · intro w'
          go_simp
          with_reducible rfl
        rotate_left
        · simp only [Act.put, List.setIfInBounds_toArray, List.set_cons_zero, List.set_cons_succ, i64_w, i32_w]
          rfl
        refine done_ (done_of HT_.out (by kernel_rfl)) ?_
        clear hHeld z0 z1 z2 y0 y1 y2
        replace H1 := Aside0.mk (blk_below H1.out HB6.out)
        replace H2 := Aside0.mk (blk_below H2.out HB6.out)
        replace H3 := Aside0.mk (blk_below H3.out HB6.out)
        replace H4 := Aside0.mk (blk_below H4.out HB6.out)
        have HG5 : Aside0 (g5 ≠ g1 ∧ g5 ≠ g2 ∧ g5 ≠ g3 ∧ g5 ≠ g4 ∧ W.heap.size ≤ g5) := ⟨by have := HSZ.out; have := HS6.out; have := HG.out; omega⟩
        replace H1 := Aside0.mk (far3 H1.out (fun e => HG5.out.1 e.symm) ((.slice Ab (ys.length + m) kb)) (.int .i64 (Rb : Int)) (.bool cb))
        replace H2 := Aside0.mk (far3 H2.out (fun e => HG5.out.2.1 e.symm) ((.slice Ab (ys.length + m) kb)) (.int .i64 (Rb : Int)) (.bool cb))
        replace H3 := Aside0.mk (far3 H3.out (fun e => HG5.out.2.2.1 e.symm) ((.slice Ab (ys.length + m) kb)) (.int .i64 (Rb : Int)) (.bool cb))
        replace H4 := Aside0.mk (far3 H4.out (fun e => HG5.out.2.2.2.1 e.symm) ((.slice Ab (ys.length + m) kb)) (.int .i64 (Rb : Int)) (.bool cb))
        have H5 := Aside0.mk (put3 (a' := (.slice Ab (ys.length + m) kb)) (b' := .int .i64 (Rb : Int)) (c' := .bool cb) HZ6.out)
        replace HA := Aside0.mk (((HA.out.lt).below HB6.out).set3 g5 ((.slice Ab (ys.length + m) kb)) (.int .i64 (Rb : Int)) (.bool cb) (fun h => by have := h.2; have := HS6.out; omega) |>.mono (fun k hk => hk.1))
        replace HB := Aside0.mk (below3 (a' := (.slice Ab (ys.length + m) kb)) (b' := .int .i64 (Rb : Int)) (c' := .bool cb) (below_then HB.out HB.out.size HB6.out) HG5.out.2.2.2.2)
        replace HV := Aside0.mk (((HV.out.lt).below HB6.out).set3 g5 ((.slice Ab (ys.length + m) kb)) (.int .i64 (Rb : Int)) (.bool cb) (fun h => by have := h.2; have := HS6.out; omega) |>.mono (fun k hk => hk.1))
        generalize ((w6.setCell ⟨g5, 0, none⟩ (.slice Ab (ys.length + m) kb)).setCell ⟨g5, 1, none⟩ (.int .i64 (Rb : Int))).setCell ⟨g5, 2, none⟩ (.bool cb) = w5 at H1 H2 H3 H4 H5 HA HV HB ⊢
        clear HZ6 HB6 HS6 HVR
        clear cg10 fg10 cg11 fg11 cg12 fg12 cg20 fg20 cg21 fg21 cg22 fg22 cg30 fg30 cg31 fg31 cg32 fg32 cg40 fg40 cg41 fg41 cg42 fg42 he'
        go_upto_region 5 with (fail)
        have hbd : Below w5.heap.size w5 w5.drew := below_drew (Below.refl _ _)
        replace H1 := Aside0.mk (blk_below H1.out hbd)
        replace H2 := Aside0.mk (blk_below H2.out hbd)
        replace H3 := Aside0.mk (blk_below H3.out hbd)
        replace H4 := Aside0.mk (blk_below H4.out hbd)
        replace HA := Aside0.mk (HA.out.below hbd)
        replace HV := Aside0.mk (HV.out.below hbd)
        replace HB := Aside0.mk (below_then HB.out HB.out.size hbd)
        clear hbd
        have cg10 : w5.drew.cell? ⟨g1, 0, none⟩ = some (.slice (some ad) (L + 1) cc) := (blk_cell H1.out 0).trans rfl
        have fg10 : w5.drew.frozen? ⟨g1, 0, none⟩ = false := blk_frozen H1.out 0
        have cg11 : w5.drew.cell? ⟨g1, 1, none⟩ = some (.int .i64 (Ra : Int)) := (blk_cell H1.out 1).trans rfl
        have fg11 : w5.drew.frozen? ⟨g1, 1, none⟩ = false := blk_frozen H1.out 1
        have cg12 : w5.drew.cell? ⟨g1, 2, none⟩ = some (.bool ca) := (blk_cell H1.out 2).trans rfl
        have fg12 : w5.drew.frozen? ⟨g1, 2, none⟩ = false := blk_frozen H1.out 2
        have cg20 : w5.drew.cell? ⟨g2, 0, none⟩ = some ((.slice Ab (ys.length + m) kb)) := (blk_cell H2.out 0).trans rfl
        have fg20 : w5.drew.frozen? ⟨g2, 0, none⟩ = false := blk_frozen H2.out 0
        have cg21 : w5.drew.cell? ⟨g2, 1, none⟩ = some (.int .i64 (Rb : Int)) := (blk_cell H2.out 1).trans rfl
        have fg21 : w5.drew.frozen? ⟨g2, 1, none⟩ = false := blk_frozen H2.out 1
        have cg22 : w5.drew.cell? ⟨g2, 2, none⟩ = some (.bool cb) := (blk_cell H2.out 2).trans rfl
        have fg22 : w5.drew.frozen? ⟨g2, 2, none⟩ = false := blk_frozen H2.out 2
        have cg30 : w5.drew.cell? ⟨g3, 0, none⟩ = some (.slice none 0 0) := (blk_cell H3.out 0).trans rfl
        have fg30 : w5.drew.frozen? ⟨g3, 0, none⟩ = false := blk_frozen H3.out 0
        have cg31 : w5.drew.cell? ⟨g3, 1, none⟩ = some (.int .i64 0) := (blk_cell H3.out 1).trans rfl
        have fg31 : w5.drew.frozen? ⟨g3, 1, none⟩ = false := blk_frozen H3.out 1
        have cg32 : w5.drew.cell? ⟨g3, 2, none⟩ = some (.bool false) := (blk_cell H3.out 2).trans rfl
        have fg32 : w5.drew.frozen? ⟨g3, 2, none⟩ = false := blk_frozen H3.out 2
        have cg40 : w5.drew.cell? ⟨g4, 0, none⟩ = some (.slice none 0 0) := (blk_cell H4.out 0).trans rfl
        have fg40 : w5.drew.frozen? ⟨g4, 0, none⟩ = false := blk_frozen H4.out 0
        have cg41 : w5.drew.cell? ⟨g4, 1, none⟩ = some (.int .i64 0) := (blk_cell H4.out 1).trans rfl
        have fg41 : w5.drew.frozen? ⟨g4, 1, none⟩ = false := blk_frozen H4.out 1
        have cg42 : w5.drew.cell? ⟨g4, 2, none⟩ = some (.bool false) := (blk_cell H4.out 2).trans rfl
        have fg42 : w5.drew.frozen? ⟨g4, 2, none⟩ = false := blk_frozen H4.out 2
        refine start_ (n := 6) (S := fun w' => w'.cell? ⟨g1, 0, none⟩ = some ((.slice (some ad) (L + 1) cc)) ∧ w'.cell? ⟨g1, 1, none⟩ = some (.int .i64 (Ra : Int)) ∧ w'.cell? ⟨g1, 2, none⟩ = some (.bool ca) ∧ w'.cell? ⟨g2, 0, none⟩ = some ((.slice Ab (ys.length + m) kb)) ∧ w'.cell? ⟨g2, 1, none⟩ = some (.int .i64 (Rb : Int)) ∧ w'.cell? ⟨g2, 2, none⟩ = some (.bool cb)) (ds := [4]) #[false, false, false, false, false, false] (by kernel_rfl) rfl rfl ⟨cg10, cg11, cg12, cg20, cg21, cg22⟩ (fun hHeld => ?_)
        generalize w5.drew = w2 at H1 H2 H3 H4 HA HV HB cg30 cg31 cg32 fg30 fg31 fg32 hHeld ⊢
        refine pure_ (i := 2) (N := some 34) (v := ?_) (a' := ?_) #[false, false, true, false, false, false] rfl rfl (by kernel_rfl) (fun _ _ _ h => h) (Or.inl ⟨by rfl, ?_⟩) ?_ ?_
        rotate_left
        · intro w'
          go_simp
          with_reducible rfl
        rotate_left
        · simp only [Act.put, List.setIfInBounds_toArray, List.set_cons_zero, List.set_cons_succ, i64_w, i32_w]
          rfl
        refine take_ (i := 0) (N := some 32) (v := ?_) (a' := ?_) #[true, false, true, false, false, false] rfl rfl (by kernel_rfl) (fun _ _ _ h => h) (Or.inl ⟨by rfl, ?_⟩) hHeld ?_ ?_
        rotate_left
        · rintro w' ⟨s0, s1, s2, s3, s4, s5⟩
          go_simp
          with_reducible rfl
        rotate_left
        · simp only [Act.put, List.setIfInBounds_toArray, List.set_cons_zero, List.set_cons_succ, i64_w, i32_w]
          rfl
        refine take_ (i := 1) (N := some 33) (v := ?_) (a' := ?_) #[true, true, true, false, false, false] rfl rfl (by kernel_rfl) (fun _ _ _ h => h) (Or.inl ⟨by rfl, ?_⟩) hHeld ?_ ?_
        rotate_left
        · rintro w' ⟨s0, s1, s2, s3, s4, s5⟩
          go_simp
          with_reducible rfl
        rotate_left
        · simp only [Act.put, List.setIfInBounds_toArray, List.set_cons_zero, List.set_cons_succ, i64_w, i32_w]
          rfl
        refine one_ (i := 3) (N := none) #[true, true, true, true, false, false] rfl rfl (by kernel_rfl) (by decide) (fun K hK => ?_)
        refine skip_ (w1 := ?_) (by rfl) rfl ?_ ?_
        rotate_left
        · go_simp
          rfl
        refine hK.out _ _ ⟨((blk_cell (far3 H1.out (fun e => HG.out.2.2.2.2.2.1 e) _ _ _) 0).trans rfl), ((blk_cell (far3 H1.out (fun e => HG.out.2.2.2.2.2.1 e) _ _ _) 1).trans rfl), ((blk_cell (far3 H1.out (fun e => HG.out.2.2.2.2.2.1 e) _ _ _) 2).trans rfl), ((blk_cell (far3 H2.out (fun e => HG.out.2.2.2.2.2.2.2.1 e) _ _ _) 0).trans rfl), ((blk_cell (far3 H2.out (fun e => HG.out.2.2.2.2.2.2.2.1 e) _ _ _) 1).trans rfl), ((blk_cell (far3 H2.out (fun e => HG.out.2.2.2.2.2.2.2.1 e) _ _ _) 2).trans rfl)⟩ (fun hHeld => ?_)
        clear hK K
        refine last_ (i := 4) (N := none) #[true, true, true, true, true, false] rfl rfl (by kernel_rfl) (by decide) (fun K hK => ?_)
        have cz0 : (((w2.setCell ⟨g3, 0, none⟩ (.slice (some ad) (L + 1) cc)).setCell ⟨g3, 1, none⟩ (.int .i64 (Ra : Int))).setCell ⟨g3, 2, none⟩ (.bool ca)).cell? ⟨g4, 0, none⟩ = some (.slice none 0 0) := (blk_cell (far3 H4.out (fun e => HG.out.2.2.2.2.2.2.2.2.2 e.symm) _ _ _) 0).trans rfl
        have cz1 : (((w2.setCell ⟨g3, 0, none⟩ (.slice (some ad) (L + 1) cc)).setCell ⟨g3, 1, none⟩ (.int .i64 (Ra : Int))).setCell ⟨g3, 2, none⟩ (.bool ca)).cell? ⟨g4, 1, none⟩ = some (.int .i64 0) := (blk_cell (far3 H4.out (fun e => HG.out.2.2.2.2.2.2.2.2.2 e.symm) _ _ _) 1).trans rfl
        have cz2 : (((w2.setCell ⟨g3, 0, none⟩ (.slice (some ad) (L + 1) cc)).setCell ⟨g3, 1, none⟩ (.int .i64 (Ra : Int))).setCell ⟨g3, 2, none⟩ (.bool ca)).cell? ⟨g4, 2, none⟩ = some (.bool false) := (blk_cell (far3 H4.out (fun e => HG.out.2.2.2.2.2.2.2.2.2 e.symm) _ _ _) 2).trans rfl
        have fz0 : (((w2.setCell ⟨g3, 0, none⟩ (.slice (some ad) (L + 1) cc)).setCell ⟨g3, 1, none⟩ (.int .i64 (Ra : Int))).setCell ⟨g3, 2, none⟩ (.bool ca)).frozen? ⟨g4, 0, none⟩ = false := blk_frozen (far3 H4.out (fun e => HG.out.2.2.2.2.2.2.2.2.2 e.symm) _ _ _) 0
        have fz1 : (((w2.setCell ⟨g3, 0, none⟩ (.slice (some ad) (L + 1) cc)).setCell ⟨g3, 1, none⟩ (.int .i64 (Ra : Int))).setCell ⟨g3, 2, none⟩ (.bool ca)).frozen? ⟨g4, 1, none⟩ = false := blk_frozen (far3 H4.out (fun e => HG.out.2.2.2.2.2.2.2.2.2 e.symm) _ _ _) 1
        have fz2 : (((w2.setCell ⟨g3, 0, none⟩ (.slice (some ad) (L + 1) cc)).setCell ⟨g3, 1, none⟩ (.int .i64 (Ra : Int))).setCell ⟨g3, 2, none⟩ (.bool ca)).frozen? ⟨g4, 2, none⟩ = false := blk_frozen (far3 H4.out (fun e => HG.out.2.2.2.2.2.2.2.2.2 e.symm) _ _ _) 2
        refine skip_ (w1 := ?_) (by rfl) rfl ?_ ?_
        rotate_left
        · go_simp
          rfl
        refine hK.out _ _ ?_
        clear hK K
        refine pure_ (i := 5) (N := some 8) (v := ?_) (a' := ?_) #[true, true, true, true, true, true] rfl rfl (by kernel_rfl) (fun _ _ _ h => h) (Or.inl ⟨by rfl, ?_⟩) ?_ ?_
        rotate_left
        · intro w'
          go_simp
          with_reducible rfl
        rotate_left
        · simp only [Act.put, List.setIfInBounds_toArray, List.set_cons_zero, List.set_cons_succ, i64_w, i32_w]
          rfl
        refine done_ (by kernel_rfl) ?_
        go_wp2
        refine bodyPost_ret (results_cct rfl _ _ g3 g4 43 43 #[.slice (some ad) (L + 1) cc, .int .i64 (Ra : Int), .bool ca] #[(.slice Ab (ys.length + m) kb), .int .i64 (Rb : Int), .bool cb] (0, 0) (0, 0) _ _ rfl (far3 (put3 H3.out) HG.out.2.2.2.2.2.2.2.2.2 _ _ _) Try.underlying43 rfl info43 rfl (put3 (far3 H4.out (fun e => HG.out.2.2.2.2.2.2.2.2.2 e.symm) _ _ _)) Try.underlying43 rfl info43) rfl ?_
        exact ⟨_, _, rfl, ((HA.out.set3 g3 _ _ _ (fun h => h.2.2.2.1 rfl)).set3 g4 _ _ _ (fun h => h.2.2.2.2 rfl)).toRO (fun k hk => hk.1), ((HV.out.set3 g3 _ _ _ (fun h => h.2.2.2.1 rfl)).set3 g4 _ _ _ (fun h => h.2.2.2.2 rfl)).toRO (fun k hk => hk.1), below3 (below3 HB.out HG.out.2.2.1) HG.out.2.2.2.1⟩
      · have hput2 : cb = false ∧ (ys ++ xs.take m).length < Rb := by
          cases cb with
          | true => exact absurd (Or.inl rfl) hput
          | false => exact ⟨rfl, by
              apply Classical.byContradiction
              intro h
              exact hput (Or.inr ⟨rfl, by omega⟩)⟩
        obtain ⟨rfl, hlt⟩ := hput2
        clear hput
        have HLT := Aside0.mk hlt
        have HM1 : Aside0 (m < N) := ⟨by
          have h := HN.out; have := HI.out; have := HLE.out; have := HL.out; unfold movN at h; simp at h; omega⟩
        clear hlt e0 e1
        refine start_ (n := 12) (S := fun w' => w'.cell? ⟨g2, 0, none⟩ = some ((.slice Ab (ys.length + m) kb)) ∧ w'.cell? ⟨g2, 1, none⟩ = some (.int .i64 (Rb : Int)) ∧ w'.cell? ⟨g2, 2, none⟩ = some (.bool false) ∧ w'.cell? ⟨g1, 0, none⟩ = some (.slice (some ad) (L + 1) cc) ∧ w'.cell? ad = some (.int .i64 (rd xs (m : Int)))) (ds := [10]) #[false, false, false, false, false, false, false, false, false, false, false, false] (by kernel_rfl) rfl rfl ⟨cg20, cg21, cg22, cg10, he'⟩ (fun hHeld => ?_); refine with_tabW tab_f26.tab3 tab_f26.bits3 (fun HT_ HW_ => ?_)
        generalize wr.drew = w2 at H1 H2 H3 H4 HA HV HB HVR HSZ hHeld ⊢
        refine pure_ (i := 1) (N := some 23) (v := ?_) (a' := ?_) #[false, true, false, false, false, false, false, false, false, false, false, false] rfl rfl (any_of HT_.out (by kernel_rfl)) (fun _ _ _ h => h) (Or.inl ⟨by rfl, ?_⟩) ?_ ?_
        rotate_left
        · intro w'
          go_simp
          with_reducible rfl
        rotate_left
        · simp only [Act.put, List.setIfInBounds_toArray, List.set_cons_zero, List.set_cons_succ, i64_w, i32_w]
          rfl
        refine take_ (i := 0) (N := some 22) (v := ?_) (a' := ?_) #[true, true, false, false, false, false, false, false, false, false, false, false] rfl rfl (take_ofW HT_.out HW_.out (by kernel_rfl)) (fun _ _ _ h => h) (Or.inl ⟨by rfl, ?_⟩) hHeld ?_ ?_
        rotate_left
        · rintro w' ⟨s0, s1, s2, s3, s4⟩
          go_simp
          with_reducible rfl
        rotate_left
        · simp only [Act.put, List.setIfInBounds_toArray, List.set_cons_zero, List.set_cons_succ, i64_w, i32_w]
          rfl
        refine take_ (i := 2) (N := some 24) (v := ?_) (a' := ?_) #[true, true, true, false, false, false, false, false, false, false, false, false] rfl rfl (take_ofW HT_.out HW_.out (by kernel_rfl)) (fun _ _ _ h => h) (Or.inl ⟨by rfl, ?_⟩) hHeld ?_ ?_
        rotate_left
        · rintro w' ⟨s0, s1, s2, s3, s4⟩
          go_simp
          with_reducible rfl
        rotate_left
        · simp only [Act.put, List.setIfInBounds_toArray, List.set_cons_zero, List.set_cons_succ, i64_w, i32_w]
          rfl
        refine pure_ (i := 3) (N := some 25) (v := ?_) (a' := ?_) #[true, true, true, true, false, false, false, false, false, false, false, false] rfl rfl (any_of HT_.out (by kernel_rfl)) (fun _ _ _ h => h) (Or.inl ⟨by rfl, ?_⟩) ?_ ?_
        rotate_left
        · intro w'
          go_simp
          with_reducible rfl
        rotate_left
        · simp only [Act.put, List.setIfInBounds_toArray, List.set_cons_zero, List.set_cons_succ, i64_w, i32_w]
          rfl
        refine take_ (i := 4) (N := some 26) (v := ?_) (a' := ?_) #[true, true, true, true, true, false, false, false, false, false, false, false] rfl rfl (take_ofW HT_.out HW_.out (by kernel_rfl)) (fun _ _ _ h => h) (Or.inl ⟨by rfl, ?_⟩) hHeld ?_ ?_
        rotate_left
        · rintro w' ⟨s0, s1, s2, s3, s4⟩
          go_simp
          with_reducible rfl
        rotate_left
        · simp only [Act.put, List.setIfInBounds_toArray, List.set_cons_zero, List.set_cons_succ, i64_w, i32_w]
          rfl
        refine join_ (σ := Nat × Option Addr × Nat) 2 #[true, true, true, true, true, true, true, true, true, true, false, false] (fun s => [(27, .tuple #[.agg #[.slice s.2.1 (ys.length + m + 1) s.2.2, .int .i64 (Rb : Int), .bool false], .bool true]), (21, .tuple #[.agg #[.slice s.2.1 (ys.length + m + 1) s.2.2, .int .i64 (Rb : Int), .bool false], .bool true]), (28, .agg #[.slice s.2.1 (ys.length + m + 1) s.2.2, .int .i64 (Rb : Int), .bool false]), (29, .bool true), (10, .pointer (some ⟨s.1, 0, none⟩))]) (fun s w' => w'.heap[s.1]? = some (.cells #[.slice none 0 0, .int .i64 0, .bool false] 43 (0, 0)) ∧ Below w2.heap.size w2 w' ∧ w2.heap.size ≤ s.1 ∧ ROp w' (fun k => w2.heap.size ≤ k ∧ k ≠ s.1) (.slice s.2.1 (ys.length + m + 1) s.2.2) ((ys ++ xs.take m) ++ [rd xs (m : Int)])) ?_ ?_
        rotate_left
        · intro hCont
          refine two_ (i := 5) (j := 9) (Ni := some 27) (Nj := some 10) #[true, true, true, true, true, true, false, false, false, false, false, false] #[true, true, true, true, true, false, false, false, false, true, false, false] rfl rfl rfl rfl (two_of HT_.out (by kernel_rfl)) (by decide) (by decide) (fun K hK => ?_) (fun K hK => ?_)
          · skip
            refine goes_ Try.func21 (by kernel_rfl) rfl #[.agg #[(.slice Ab (ys.length + m) kb), .int .i64 (Rb : Int), .bool false], .int .i64 (rd xs (m : Int))] (by rfl) rfl rfl (by simp only [List.map_toArray, List.map_cons, List.map_nil]; rfl) ?_
            with_reducible refine (refPut_yes Rb (rd xs (m : Int)) HVR.out HLT.out HX.out.2.2.1).mono ?_
            rintro e w4 ⟨v4, rfl, hv4, hb4⟩
            refine ⟨_, rfl, ?_⟩
            obtain ⟨A6, c6, rfl⟩ : ∃ A6 c6, v4 = .slice A6 (ys.length + m + 1) c6 := by obtain ⟨A6, c6, e, _⟩ := hv4; rw [List.length_append, HLE.out] at e; exact ⟨A6, c6, e⟩
            refine hK.out _ _ ⟨(pw_cell_below hb4 hHeld.1), (pw_cell_below hb4 hHeld.2.1), (pw_cell_below hb4 hHeld.2.2.1), (pw_cell_below hb4 hHeld.2.2.2.1), (pw_cell_below hb4 hHeld.2.2.2.2)⟩ (fun hHeld => ?_)
            clear hK K
            refine norm_ (a' := ?_) ?_ ?_
            rotate_left
            · show Act.put _ (some 27) _ = _
              simp only [Act.put, List.setIfInBounds_toArray, List.set_cons_zero, List.set_cons_succ, i64_w, i32_w]
              rfl
            refine pure_ (i := 6) (N := some 21) (v := ?_) (a' := ?_) #[true, true, true, true, true, true, true, false, false, false, false, false] rfl rfl (any_of HT_.out (by kernel_rfl)) (fun _ _ _ h => h) (Or.inl ⟨by rfl, ?_⟩) ?_ ?_
            rotate_left
            · intro w'
              go_simp
              with_reducible rfl
            rotate_left
            · simp only [Act.put, List.setIfInBounds_toArray, List.set_cons_zero, List.set_cons_succ, i64_w, i32_w]
              rfl
            refine pure_ (i := 7) (N := some 28) (v := ?_) (a' := ?_) #[true, true, true, true, true, true, true, true, false, false, false, false] rfl rfl (any_of HT_.out (by kernel_rfl)) (fun _ _ _ h => h) (Or.inl ⟨by rfl, ?_⟩) ?_ ?_
            rotate_left
            · intro w'
              go_simp
              with_reducible rfl
            rotate_left
            · simp only [Act.put, List.setIfInBounds_toArray, List.set_cons_zero, List.set_cons_succ, i64_w, i32_w]
              rfl
            refine pure_ (i := 8) (N := some 29) (v := ?_) (a' := ?_) #[true, true, true, true, true, true, true, true, true, false, false, false] rfl rfl (any_of HT_.out (by kernel_rfl)) (fun _ _ _ h => h) (Or.inl ⟨by rfl, ?_⟩) ?_ ?_
            rotate_left
            · intro w'
              go_simp
              with_reducible rfl
            rotate_left
            · simp only [Act.put, List.setIfInBounds_toArray, List.set_cons_zero, List.set_cons_succ, i64_w, i32_w]
              rfl
            refine one_ (i := 9) (N := some 10) #[true, true, true, true, true, true, true, true, true, true, false, false] rfl rfl (one_of HT_.out (by kernel_rfl)) (by decide) (fun K hK => ?_)
            refine value_ (w1 := ?_) (v := ?_) (by rfl) rfl ?_ ?_
            rotate_left 2
            · go_simp
              constructor
              · rfl
              · rfl
            refine hK.out _ _ ⟨(cell_up hHeld.1), (cell_up hHeld.2.1), (cell_up hHeld.2.2.1), (cell_up hHeld.2.2.2.1), (cell_up hHeld.2.2.2.2)⟩ (fun hHeld => ?_)
            clear hK K
            refine norm_ (a' := ?_) ?_ ?_
            rotate_left
            · show Act.put _ (some 10) _ = _
              simp only [Act.put, List.setIfInBounds_toArray, List.set_cons_zero, List.set_cons_succ, i64_w, i32_w]
              rfl
            exact norm_ (by simp only [putAll, Act.put, List.setIfInBounds_toArray, List.set_cons_zero, List.set_cons_succ]) (hCont (w4.heap.size, A6, c6) _ ⟨blk_new w4 _, below_alloc hb4 _, hb4.size, (hv4.toP.below (below_alloc (Below.refl _ _) _)).mono (fun k hk => ⟨hk.1, show k ≠ w4.heap.size by have := hk.2; omega⟩)⟩)
          · skip
            refine value_ (w1 := ?_) (v := ?_) (by rfl) rfl ?_ ?_
            rotate_left 2
            · go_simp
              constructor
              · rfl
              · rfl
            have hz3 := blk_new w2 (.cells #[.slice none 0 0, .int .i64 0, .bool false] 43)
            have hb3 : Below w2.heap.size w2 (w2.alloc (.cells #[.slice none 0 0, .int .i64 0, .bool false] 43)) := below_alloc (Below.refl _ _) _
            refine hK.out _ _ ⟨(cell_up hHeld.1), (cell_up hHeld.2.1), (cell_up hHeld.2.2.1), (cell_up hHeld.2.2.2.1), (cell_up hHeld.2.2.2.2)⟩ (fun hHeld => ?_)
            clear hK K
            refine norm_ (a' := ?_) ?_ ?_
            rotate_left
            · show Act.put _ (some 10) _ = _
              simp only [Act.put, List.setIfInBounds_toArray, List.set_cons_zero, List.set_cons_succ, i64_w, i32_w]
              rfl
            refine one_ (i := 5) (N := some 27) #[true, true, true, true, true, true, false, false, false, true, false, false] rfl rfl (one_of HT_.out (by kernel_rfl)) (by decide) (fun K hK => ?_)
            refine goes_ Try.func21 (by kernel_rfl) rfl #[.agg #[(.slice Ab (ys.length + m) kb), .int .i64 (Rb : Int), .bool false], .int .i64 (rd xs (m : Int))] (by rfl) rfl rfl (by simp only [List.map_toArray, List.map_cons, List.map_nil]; rfl) ?_
            with_reducible refine (refPut_yes Rb (rd xs (m : Int)) (HVR.out.below hb3) HLT.out HX.out.2.2.1).mono ?_
            rintro e w4 ⟨v4, rfl, hv4, hb4⟩
            refine ⟨_, rfl, ?_⟩
            obtain ⟨A6, c6, rfl⟩ : ∃ A6 c6, v4 = .slice A6 (ys.length + m + 1) c6 := by obtain ⟨A6, c6, e, _⟩ := hv4; rw [List.length_append, HLE.out] at e; exact ⟨A6, c6, e⟩
            refine hK.out _ _ ⟨(pw_cell_below hb4 hHeld.1), (pw_cell_below hb4 hHeld.2.1), (pw_cell_below hb4 hHeld.2.2.1), (pw_cell_below hb4 hHeld.2.2.2.1), (pw_cell_below hb4 hHeld.2.2.2.2)⟩ (fun hHeld => ?_)
            clear hK K
            refine norm_ (a' := ?_) ?_ ?_
            rotate_left
            · show Act.put _ (some 27) _ = _
              simp only [Act.put, List.setIfInBounds_toArray, List.set_cons_zero, List.set_cons_succ, i64_w, i32_w]
              rfl
            refine pure_ (i := 6) (N := some 21) (v := ?_) (a' := ?_) #[true, true, true, true, true, true, true, false, false, true, false, false] rfl rfl (any_of HT_.out (by kernel_rfl)) (fun _ _ _ h => h) (Or.inl ⟨by rfl, ?_⟩) ?_ ?_
            rotate_left
            · intro w'
              go_simp
              with_reducible rfl
            rotate_left
            · simp only [Act.put, List.setIfInBounds_toArray, List.set_cons_zero, List.set_cons_succ, i64_w, i32_w]
              rfl
            refine pure_ (i := 7) (N := some 28) (v := ?_) (a' := ?_) #[true, true, true, true, true, true, true, true, false, true, false, false] rfl rfl (any_of HT_.out (by kernel_rfl)) (fun _ _ _ h => h) (Or.inl ⟨by rfl, ?_⟩) ?_ ?_
            rotate_left
            · intro w'
              go_simp
              with_reducible rfl
            rotate_left
            · simp only [Act.put, List.setIfInBounds_toArray, List.set_cons_zero, List.set_cons_succ, i64_w, i32_w]
              rfl
            refine pure_ (i := 8) (N := some 29) (v := ?_) (a' := ?_) #[true, true, true, true, true, true, true, true, true, true, false, false] rfl rfl (any_of HT_.out (by kernel_rfl)) (fun _ _ _ h => h) (Or.inl ⟨by rfl, ?_⟩) ?_ ?_
            rotate_left
            · intro w'
              go_simp
              with_reducible rfl
            rotate_left
            · simp only [Act.put, List.setIfInBounds_toArray, List.set_cons_zero, List.set_cons_succ, i64_w, i32_w]
              rfl
            exact norm_ (by simp only [putAll, Act.put, List.setIfInBounds_toArray, List.set_cons_zero, List.set_cons_succ]) (hCont (w2.heap.size, A6, c6) _ ⟨blk_below hz3 hb4, below_then hb3 hb3.size hb4, Nat.le_refl _, hv4.toP.mono (fun k hk => by have := hk.1; simp at this; exact ⟨by omega, show k ≠ w2.heap.size by omega⟩)⟩)
        rintro ⟨g5, A6, c6⟩ w6 ⟨hz6, hb6, hs6, hv6⟩
        have HV6 := Aside0.mk hv6
        clear hv6
        have hHeld := (show w6.cell? ⟨g2, 0, none⟩ = some ((.slice Ab (ys.length + m) kb)) ∧ w6.cell? ⟨g2, 1, none⟩ = some (.int .i64 (Rb : Int)) ∧ w6.cell? ⟨g2, 2, none⟩ = some (.bool false) ∧ w6.cell? ⟨g1, 0, none⟩ = some (.slice (some ad) (L + 1) cc) ∧ w6.cell? ad = some (.int .i64 (rd xs (m : Int))) from ⟨(pw_cell_below hb6 hHeld.1), (pw_cell_below hb6 hHeld.2.1), (pw_cell_below hb6 hHeld.2.2.1), (pw_cell_below hb6 hHeld.2.2.2.1), (pw_cell_below hb6 hHeld.2.2.2.2)⟩)
        have z0 : w6.cell? ⟨g5, 0, none⟩ = some (.slice none 0 0) := (blk_cell hz6 0).trans rfl
        have z1 : w6.cell? ⟨g5, 1, none⟩ = some (.int .i64 0) := (blk_cell hz6 1).trans rfl
        have z2 : w6.cell? ⟨g5, 2, none⟩ = some (.bool false) := (blk_cell hz6 2).trans rfl
        have y0 : w6.frozen? ⟨g5, 0, none⟩ = false := blk_frozen hz6 0
        have y1 : w6.frozen? ⟨g5, 1, none⟩ = false := blk_frozen hz6 1
        have y2 : w6.frozen? ⟨g5, 2, none⟩ = false := blk_frozen hz6 2
        have HZ6 := Aside0.mk hz6
        have HB6 := Aside0.mk hb6
        have HS6 := Aside0.mk hs6
        clear hz6 hb6 hs6
        refine norm_ (a' := ?_) ?_ ?_
        rotate_left
        · simp only [putAll, Act.put, List.setIfInBounds_toArray, List.set_cons_zero, List.set_cons_succ]
          rfl
        refine last_ (i := 10) (N := none) #[true, true, true, true, true, true, true, true, true, true, true, false] rfl rfl (one_of HT_.out (by kernel_rfl)) (by decide) (fun K hK => ?_)
        refine skip_ (w1 := ?_) (by rfl) rfl ?_ ?_
        rotate_left
        · go_simp
          rfl
        refine hK.out _ _ ?_
        clear hK K
        refine pure_ (i := 11) (N := some 11) (v := ?_) (a' := ?_) #[true, true, true, true, true, true, true, true, true, true, true, true] rfl rfl (any_of HT_.out (by kernel_rfl)) (fun _ _ _ h => h) (Or.inl ⟨by rfl, ?_⟩) ?_ ?_
        rotate_left
        · intro w'
          go_simp
          with_reducible rfl
        rotate_left
        · simp only [Act.put, List.setIfInBounds_toArray, List.set_cons_zero, List.set_cons_succ, i64_w, i32_w]
          rfl
        refine done_ (done_of HT_.out (by kernel_rfl)) ?_
        clear hHeld z0 z1 z2 y0 y1 y2
        replace H1 := Aside0.mk (blk_below H1.out HB6.out)
        replace H2 := Aside0.mk (blk_below H2.out HB6.out)
        replace H3 := Aside0.mk (blk_below H3.out HB6.out)
        replace H4 := Aside0.mk (blk_below H4.out HB6.out)
        have HG5 : Aside0 (g5 ≠ g1 ∧ g5 ≠ g2 ∧ g5 ≠ g3 ∧ g5 ≠ g4 ∧ W.heap.size ≤ g5) := ⟨by have := HSZ.out; have := HS6.out; have := HG.out; omega⟩
        replace H1 := Aside0.mk (far3 H1.out (fun e => HG5.out.1 e.symm) ((.slice A6 (ys.length + m + 1) c6)) (.int .i64 (Rb : Int)) (.bool false))
        replace H2 := Aside0.mk (far3 H2.out (fun e => HG5.out.2.1 e.symm) ((.slice A6 (ys.length + m + 1) c6)) (.int .i64 (Rb : Int)) (.bool false))
        replace H3 := Aside0.mk (far3 H3.out (fun e => HG5.out.2.2.1 e.symm) ((.slice A6 (ys.length + m + 1) c6)) (.int .i64 (Rb : Int)) (.bool false))
        replace H4 := Aside0.mk (far3 H4.out (fun e => HG5.out.2.2.2.1 e.symm) ((.slice A6 (ys.length + m + 1) c6)) (.int .i64 (Rb : Int)) (.bool false))
        have H5 := Aside0.mk (put3 (a' := (.slice A6 (ys.length + m + 1) c6)) (b' := .int .i64 (Rb : Int)) (c' := .bool false) HZ6.out)
        replace HA := Aside0.mk (((HA.out.lt).below HB6.out).set3 g5 ((.slice A6 (ys.length + m + 1) c6)) (.int .i64 (Rb : Int)) (.bool false) (fun h => by have := h.2; have := HS6.out; omega) |>.mono (fun k hk => hk.1))
        replace HB := Aside0.mk (below3 (a' := (.slice A6 (ys.length + m + 1) c6)) (b' := .int .i64 (Rb : Int)) (c' := .bool false) (below_then HB.out HB.out.size HB6.out) HG5.out.2.2.2.2)
        have HV : Aside0 (ROp _ (fun k => B ≤ k ∧ k ≠ g1 ∧ k ≠ g2 ∧ k ≠ g3 ∧ k ≠ g4) (.slice A6 (ys.length + m + 1) c6) (ys ++ xs.take (m + 1))) := ⟨by
          have h := (HV6.out.mono (ok2 := fun k => (fun k => B ≤ k ∧ k ≠ g1 ∧ k ≠ g2 ∧ k ≠ g3 ∧ k ≠ g4) k ∧ k ≠ g5) (fun k hk => ⟨by have h1 := hk.1; have h2 := HSZ.out; have h3 := HX.out; have h4 := HG.out; omega, hk.2⟩)).set3 g5 ((.slice A6 (ys.length + m + 1) c6)) (.int .i64 (Rb : Int)) (.bool false) (fun h => h.2 rfl)
          rw [List.append_assoc, rd_get xs m HL.out.1, take_one xs m HL.out.1] at h
          exact h.mono (fun k hk => hk.1)⟩
        generalize ((w6.setCell ⟨g5, 0, none⟩ (.slice A6 (ys.length + m + 1) c6)).setCell ⟨g5, 1, none⟩ (.int .i64 (Rb : Int))).setCell ⟨g5, 2, none⟩ (.bool false) = w5 at H1 H2 H3 H4 H5 HA HV HB ⊢
        clear HZ6 HB6 HS6 HVR
        clear cg10 fg10 cg11 fg11 cg12 fg12 cg20 fg20 cg21 fg21 cg22 fg22 cg30 fg30 cg31 fg31 cg32 fg32 cg40 fg40 cg41 fg41 cg42 fg42 he'
        have cg10 : w5.cell? ⟨g1, 0, none⟩ = some (.slice (some ad) (L + 1) cc) := (blk_cell H1.out 0).trans rfl
        have fg10 : w5.frozen? ⟨g1, 0, none⟩ = false := blk_frozen H1.out 0
        have cg11 : w5.cell? ⟨g1, 1, none⟩ = some (.int .i64 (Ra : Int)) := (blk_cell H1.out 1).trans rfl
        have fg11 : w5.frozen? ⟨g1, 1, none⟩ = false := blk_frozen H1.out 1
        have cg12 : w5.cell? ⟨g1, 2, none⟩ = some (.bool ca) := (blk_cell H1.out 2).trans rfl
        have fg12 : w5.frozen? ⟨g1, 2, none⟩ = false := blk_frozen H1.out 2
        have cg20 : w5.cell? ⟨g2, 0, none⟩ = some ((.slice Ab (ys.length + m) kb)) := (blk_cell H2.out 0).trans rfl
        have fg20 : w5.frozen? ⟨g2, 0, none⟩ = false := blk_frozen H2.out 0
        have cg21 : w5.cell? ⟨g2, 1, none⟩ = some (.int .i64 (Rb : Int)) := (blk_cell H2.out 1).trans rfl
        have fg21 : w5.frozen? ⟨g2, 1, none⟩ = false := blk_frozen H2.out 1
        have cg22 : w5.cell? ⟨g2, 2, none⟩ = some (.bool false) := (blk_cell H2.out 2).trans rfl
        have fg22 : w5.frozen? ⟨g2, 2, none⟩ = false := blk_frozen H2.out 2
        have cg30 : w5.cell? ⟨g3, 0, none⟩ = some (.slice none 0 0) := (blk_cell H3.out 0).trans rfl
        have fg30 : w5.frozen? ⟨g3, 0, none⟩ = false := blk_frozen H3.out 0
        have cg31 : w5.cell? ⟨g3, 1, none⟩ = some (.int .i64 0) := (blk_cell H3.out 1).trans rfl
        have fg31 : w5.frozen? ⟨g3, 1, none⟩ = false := blk_frozen H3.out 1
        have cg32 : w5.cell? ⟨g3, 2, none⟩ = some (.bool false) := (blk_cell H3.out 2).trans rfl
        have fg32 : w5.frozen? ⟨g3, 2, none⟩ = false := blk_frozen H3.out 2
        have cg40 : w5.cell? ⟨g4, 0, none⟩ = some (.slice none 0 0) := (blk_cell H4.out 0).trans rfl
        have fg40 : w5.frozen? ⟨g4, 0, none⟩ = false := blk_frozen H4.out 0
        have cg41 : w5.cell? ⟨g4, 1, none⟩ = some (.int .i64 0) := (blk_cell H4.out 1).trans rfl
        have fg41 : w5.frozen? ⟨g4, 1, none⟩ = false := blk_frozen H4.out 1
        have cg42 : w5.cell? ⟨g4, 2, none⟩ = some (.bool false) := (blk_cell H4.out 2).trans rfl
        have fg42 : w5.frozen? ⟨g4, 2, none⟩ = false := blk_frozen H4.out 2
        have c50 : w5.cell? ⟨g5, 0, none⟩ = some (.slice A6 (ys.length + m + 1) c6) := (blk_cell H5.out 0).trans rfl
        have c51 : w5.cell? ⟨g5, 1, none⟩ = some (.int .i64 (Rb : Int)) := (blk_cell H5.out 1).trans rfl
        have c52 : w5.cell? ⟨g5, 2, none⟩ = some (.bool false) := (blk_cell H5.out 2).trans rfl
        go_upto_region 7 with (fail)
        replace H1 := Aside0.mk (far3 (g' := g2) H1.out (fun e => HG.out.2.2.2.2.1 e) (.slice A6 (ys.length + m + 1) c6) (.int .i64 (Rb : Int)) (.bool false))
        replace H2 := Aside0.mk (put3 (a' := (.slice A6 (ys.length + m + 1) c6)) (b' := .int .i64 (Rb : Int)) (c' := .bool false) H2.out)
        replace H3 := Aside0.mk (far3 (g' := g2) H3.out (fun e => HG.out.2.2.2.2.2.2.2.1 e.symm) (.slice A6 (ys.length + m + 1) c6) (.int .i64 (Rb : Int)) (.bool false))
        replace H4 := Aside0.mk (far3 (g' := g2) H4.out (fun e => HG.out.2.2.2.2.2.2.2.2.1 e.symm) (.slice A6 (ys.length + m + 1) c6) (.int .i64 (Rb : Int)) (.bool false))
        replace HA := Aside0.mk (HA.out.set3 g2 (.slice A6 (ys.length + m + 1) c6) (.int .i64 (Rb : Int)) (.bool false) (fun h => h.2.2.1 rfl))
        replace HV := Aside0.mk (HV.out.set3 g2 (.slice A6 (ys.length + m + 1) c6) (.int .i64 (Rb : Int)) (.bool false) (fun h => h.2.2.1 rfl))
        replace HB := Aside0.mk (below3 (a' := (.slice A6 (ys.length + m + 1) c6)) (b' := .int .i64 (Rb : Int)) (c' := .bool false) HB.out HG.out.2.1)
        clear cg10 fg10 cg11 fg11 cg12 fg12 cg20 fg20 cg21 fg21 cg22 fg22 cg30 fg30 cg31 fg31 cg32 fg32 cg40 fg40 cg41 fg41 cg42 fg42 c50 c51 c52 H5
        generalize ((w5.setCell ⟨g2, 0, none⟩ (.slice A6 (ys.length + m + 1) c6)).setCell ⟨g2, 1, none⟩ (.int .i64 (Rb : Int))).setCell ⟨g2, 2, none⟩ (.bool false) = w7 at H1 H2 H3 H4 HA HV HB ⊢
        obtain ⟨A2, k2, e2, hl2, hC2, hA2⟩ := HA.out
        have hdl2 : (xs.drop m).length = L + 1 := by rw [List.length_drop]; have := HL.out; omega
        rw [hdl2] at e2 hl2 hC2
        obtain ⟨rfl, -, rfl⟩ : some ad = A2 ∧ L + 1 = L + 1 ∧ cc = k2 := by injection e2 with h1 h2 h3; exact ⟨h1, h2, h3⟩
        obtain ⟨A3, hcut3, hd3⟩ := cut_dropP (ok := fun k => B ≤ k ∧ k ≠ g1 ∧ k ≠ g2 ∧ k ≠ g3 ∧ k ≠ g4) (some ad) (L + 1) cc 1 (by omega) hdl2 hl2 hC2 hA2
        rw [List.drop_drop] at hd3
        simp only [Nat.add_sub_cancel] at hcut3 hd3
        simp only [show ((1 : Nat) : Int) = 1 from rfl] at hcut3
        have HD3 := Aside0.mk hd3
        have cg10 : w7.cell? ⟨g1, 0, none⟩ = some (.slice (some ad) (L + 1) cc) := (blk_cell H1.out 0).trans rfl
        have fg10 : w7.frozen? ⟨g1, 0, none⟩ = false := blk_frozen H1.out 0
        have hw1 : wrap64 ((m : Int) + 1) = (m : Int) + 1 := w64 (by omega) (by have := HX.out; have := HL.out; omega)
        have e9 : ((1 : Int) ≤ (L : Int) + 1) = True := eq_true (by omega)
        clear e2 hl2 hC2 hA2 hdl2 hd3
        go_wp2
        replace H1 := Aside0.mk (blk_put (cs' := #[.slice A3 L (cc - 1), .int .i64 (Ra : Int), .bool ca]) H1.out 0 (.slice A3 L (cc - 1)) rfl)
        replace H2 := Aside0.mk (blk_far (p := ⟨g1, 0, none⟩) H2.out (fun e => HG.out.2.2.2.2.1 e.symm) (.slice A3 L (cc - 1)))
        replace H3 := Aside0.mk (blk_far (p := ⟨g1, 0, none⟩) H3.out (fun e => HG.out.2.2.2.2.2.1 e.symm) (.slice A3 L (cc - 1)))
        replace H4 := Aside0.mk (blk_far (p := ⟨g1, 0, none⟩) H4.out (fun e => HG.out.2.2.2.2.2.2.1 e.symm) (.slice A3 L (cc - 1)))
        replace HA := Aside0.mk (HD3.out.set g1 0 (.slice A3 L (cc - 1)) (fun h => h.2.1 rfl))
        replace HV := Aside0.mk (HV.out.set g1 0 (.slice A3 L (cc - 1)) (fun h => h.2.1 rfl))
        replace HB := Aside0.mk (HB.out.setCell (p := ⟨g1, 0, none⟩) HG.out.1 (.slice A3 L (cc - 1)))
        cases gk with
        | zero => have := HI.out; have := HM1.out; omega
        | succ kq =>
          go_roundg kq
          case measure => omega
          case rel => exact ⟨m + 1, _, (.slice A6 (ys.length + m + 1) c6), by push_cast; rfl, ⟨by have := HI.out; omega⟩, H1, H2, H3, H4, HA, HV, HB⟩
  case rest =>
  clear H1 H2 H3 H4 HA HV HB
  obtain ⟨va, vb, rfl, H1, H2, H3, H4, HA, HV, HB⟩ := hcut
  obtain ⟨A, n1, cc, rfl⟩ : ∃ A n cc, va = .slice A n cc := by obtain ⟨A, cc, e, _⟩ := HA.out; exact ⟨A, _, cc, e⟩
  obtain ⟨A5, n5, c5, rfl⟩ : ∃ A n cc, vb = .slice A n cc := by obtain ⟨A, cc, e, _⟩ := HV.out; exact ⟨A, _, cc, e⟩
  go_upto_region 9 with (fail)
  have hbd : Below wc.heap.size wc wc.drew := below_drew (Below.refl _ _)
  replace H1 := Aside0.mk (blk_below H1.out hbd)
  replace H2 := Aside0.mk (blk_below H2.out hbd)
  replace H3 := Aside0.mk (blk_below H3.out hbd)
  replace H4 := Aside0.mk (blk_below H4.out hbd)
  replace HA := Aside0.mk (HA.out.below hbd)
  replace HV := Aside0.mk (HV.out.below hbd)
  replace HB := Aside0.mk (below_then HB.out HB.out.size hbd)
  clear hbd
  have cg10 : wc.drew.cell? ⟨g1, 0, none⟩ = some (.slice A n1 cc) := (blk_cell H1.out 0).trans rfl
  have fg10 : wc.drew.frozen? ⟨g1, 0, none⟩ = false := blk_frozen H1.out 0
  have cg11 : wc.drew.cell? ⟨g1, 1, none⟩ = some (.int .i64 (Ra : Int)) := (blk_cell H1.out 1).trans rfl
  have fg11 : wc.drew.frozen? ⟨g1, 1, none⟩ = false := blk_frozen H1.out 1
  have cg12 : wc.drew.cell? ⟨g1, 2, none⟩ = some (.bool ca) := (blk_cell H1.out 2).trans rfl
  have fg12 : wc.drew.frozen? ⟨g1, 2, none⟩ = false := blk_frozen H1.out 2
  have cg20 : wc.drew.cell? ⟨g2, 0, none⟩ = some (.slice A5 n5 c5) := (blk_cell H2.out 0).trans rfl
  have fg20 : wc.drew.frozen? ⟨g2, 0, none⟩ = false := blk_frozen H2.out 0
  have cg21 : wc.drew.cell? ⟨g2, 1, none⟩ = some (.int .i64 (Rb : Int)) := (blk_cell H2.out 1).trans rfl
  have fg21 : wc.drew.frozen? ⟨g2, 1, none⟩ = false := blk_frozen H2.out 1
  have cg22 : wc.drew.cell? ⟨g2, 2, none⟩ = some (.bool cb) := (blk_cell H2.out 2).trans rfl
  have fg22 : wc.drew.frozen? ⟨g2, 2, none⟩ = false := blk_frozen H2.out 2
  have cg30 : wc.drew.cell? ⟨g3, 0, none⟩ = some (.slice none 0 0) := (blk_cell H3.out 0).trans rfl
  have fg30 : wc.drew.frozen? ⟨g3, 0, none⟩ = false := blk_frozen H3.out 0
  have cg31 : wc.drew.cell? ⟨g3, 1, none⟩ = some (.int .i64 0) := (blk_cell H3.out 1).trans rfl
  have fg31 : wc.drew.frozen? ⟨g3, 1, none⟩ = false := blk_frozen H3.out 1
  have cg32 : wc.drew.cell? ⟨g3, 2, none⟩ = some (.bool false) := (blk_cell H3.out 2).trans rfl
  have fg32 : wc.drew.frozen? ⟨g3, 2, none⟩ = false := blk_frozen H3.out 2
  have cg40 : wc.drew.cell? ⟨g4, 0, none⟩ = some (.slice none 0 0) := (blk_cell H4.out 0).trans rfl
  have fg40 : wc.drew.frozen? ⟨g4, 0, none⟩ = false := blk_frozen H4.out 0
  have cg41 : wc.drew.cell? ⟨g4, 1, none⟩ = some (.int .i64 0) := (blk_cell H4.out 1).trans rfl
  have fg41 : wc.drew.frozen? ⟨g4, 1, none⟩ = false := blk_frozen H4.out 1
  have cg42 : wc.drew.cell? ⟨g4, 2, none⟩ = some (.bool false) := (blk_cell H4.out 2).trans rfl
  have fg42 : wc.drew.frozen? ⟨g4, 2, none⟩ = false := blk_frozen H4.out 2
  refine start_ (n := 6) (S := fun w' => w'.cell? ⟨g1, 0, none⟩ = some ((.slice A n1 cc)) ∧ w'.cell? ⟨g1, 1, none⟩ = some (.int .i64 (Ra : Int)) ∧ w'.cell? ⟨g1, 2, none⟩ = some (.bool ca) ∧ w'.cell? ⟨g2, 0, none⟩ = some ((.slice A5 n5 c5)) ∧ w'.cell? ⟨g2, 1, none⟩ = some (.int .i64 (Rb : Int)) ∧ w'.cell? ⟨g2, 2, none⟩ = some (.bool cb)) (ds := [4]) #[false, false, false, false, false, false] (by kernel_rfl) rfl rfl ⟨cg10, cg11, cg12, cg20, cg21, cg22⟩ (fun hHeld => ?_)
  generalize wc.drew = w2 at H1 H2 H3 H4 HA HV HB cg30 cg31 cg32 fg30 fg31 fg32 hHeld ⊢
  refine pure_ (i := 2) (N := some 44) (v := ?_) (a' := ?_) #[false, false, true, false, false, false] rfl rfl (by kernel_rfl) (fun _ _ _ h => h) (Or.inl ⟨by rfl, ?_⟩) ?_ ?_
  rotate_left
  · intro w'
    go_simp
    with_reducible rfl
  rotate_left
  · simp only [Act.put, List.setIfInBounds_toArray, List.set_cons_zero, List.set_cons_succ, i64_w, i32_w]
    rfl
  refine take_ (i := 0) (N := some 42) (v := ?_) (a' := ?_) #[true, false, true, false, false, false] rfl rfl (by kernel_rfl) (fun _ _ _ h => h) (Or.inl ⟨by rfl, ?_⟩) hHeld ?_ ?_
  rotate_left
  · rintro w' ⟨s0, s1, s2, s3, s4, s5⟩
    go_simp
    with_reducible rfl
  rotate_left
  · simp only [Act.put, List.setIfInBounds_toArray, List.set_cons_zero, List.set_cons_succ, i64_w, i32_w]
    rfl
  refine take_ (i := 1) (N := some 43) (v := ?_) (a' := ?_) #[true, true, true, false, false, false] rfl rfl (by kernel_rfl) (fun _ _ _ h => h) (Or.inl ⟨by rfl, ?_⟩) hHeld ?_ ?_
  rotate_left
  · rintro w' ⟨s0, s1, s2, s3, s4, s5⟩
    go_simp
    with_reducible rfl
  rotate_left
  · simp only [Act.put, List.setIfInBounds_toArray, List.set_cons_zero, List.set_cons_succ, i64_w, i32_w]
    rfl
  refine one_ (i := 3) (N := none) #[true, true, true, true, false, false] rfl rfl (by kernel_rfl) (by decide) (fun K hK => ?_)
  refine skip_ (w1 := ?_) (by rfl) rfl ?_ ?_
  rotate_left
  · go_simp
    rfl
  refine hK.out _ _ ⟨((blk_cell (far3 H1.out (fun e => HG.out.2.2.2.2.2.1 e) _ _ _) 0).trans rfl), ((blk_cell (far3 H1.out (fun e => HG.out.2.2.2.2.2.1 e) _ _ _) 1).trans rfl), ((blk_cell (far3 H1.out (fun e => HG.out.2.2.2.2.2.1 e) _ _ _) 2).trans rfl), ((blk_cell (far3 H2.out (fun e => HG.out.2.2.2.2.2.2.2.1 e) _ _ _) 0).trans rfl), ((blk_cell (far3 H2.out (fun e => HG.out.2.2.2.2.2.2.2.1 e) _ _ _) 1).trans rfl), ((blk_cell (far3 H2.out (fun e => HG.out.2.2.2.2.2.2.2.1 e) _ _ _) 2).trans rfl)⟩ (fun hHeld => ?_)
  clear hK K
  refine last_ (i := 4) (N := none) #[true, true, true, true, true, false] rfl rfl (by kernel_rfl) (by decide) (fun K hK => ?_)
  have cz0 : (((w2.setCell ⟨g3, 0, none⟩ (.slice A n1 cc)).setCell ⟨g3, 1, none⟩ (.int .i64 (Ra : Int))).setCell ⟨g3, 2, none⟩ (.bool ca)).cell? ⟨g4, 0, none⟩ = some (.slice none 0 0) := (blk_cell (far3 H4.out (fun e => HG.out.2.2.2.2.2.2.2.2.2 e.symm) _ _ _) 0).trans rfl
  have cz1 : (((w2.setCell ⟨g3, 0, none⟩ (.slice A n1 cc)).setCell ⟨g3, 1, none⟩ (.int .i64 (Ra : Int))).setCell ⟨g3, 2, none⟩ (.bool ca)).cell? ⟨g4, 1, none⟩ = some (.int .i64 0) := (blk_cell (far3 H4.out (fun e => HG.out.2.2.2.2.2.2.2.2.2 e.symm) _ _ _) 1).trans rfl
  have cz2 : (((w2.setCell ⟨g3, 0, none⟩ (.slice A n1 cc)).setCell ⟨g3, 1, none⟩ (.int .i64 (Ra : Int))).setCell ⟨g3, 2, none⟩ (.bool ca)).cell? ⟨g4, 2, none⟩ = some (.bool false) := (blk_cell (far3 H4.out (fun e => HG.out.2.2.2.2.2.2.2.2.2 e.symm) _ _ _) 2).trans rfl
  have fz0 : (((w2.setCell ⟨g3, 0, none⟩ (.slice A n1 cc)).setCell ⟨g3, 1, none⟩ (.int .i64 (Ra : Int))).setCell ⟨g3, 2, none⟩ (.bool ca)).frozen? ⟨g4, 0, none⟩ = false := blk_frozen (far3 H4.out (fun e => HG.out.2.2.2.2.2.2.2.2.2 e.symm) _ _ _) 0
  have fz1 : (((w2.setCell ⟨g3, 0, none⟩ (.slice A n1 cc)).setCell ⟨g3, 1, none⟩ (.int .i64 (Ra : Int))).setCell ⟨g3, 2, none⟩ (.bool ca)).frozen? ⟨g4, 1, none⟩ = false := blk_frozen (far3 H4.out (fun e => HG.out.2.2.2.2.2.2.2.2.2 e.symm) _ _ _) 1
  have fz2 : (((w2.setCell ⟨g3, 0, none⟩ (.slice A n1 cc)).setCell ⟨g3, 1, none⟩ (.int .i64 (Ra : Int))).setCell ⟨g3, 2, none⟩ (.bool ca)).frozen? ⟨g4, 2, none⟩ = false := blk_frozen (far3 H4.out (fun e => HG.out.2.2.2.2.2.2.2.2.2 e.symm) _ _ _) 2
  refine skip_ (w1 := ?_) (by rfl) rfl ?_ ?_
  rotate_left
  · go_simp
    rfl
  refine hK.out _ _ ?_
  clear hK K
  refine pure_ (i := 5) (N := some 8) (v := ?_) (a' := ?_) #[true, true, true, true, true, true] rfl rfl (by kernel_rfl) (fun _ _ _ h => h) (Or.inl ⟨by rfl, ?_⟩) ?_ ?_
  rotate_left
  · intro w'
    go_simp
    with_reducible rfl
  rotate_left
  · simp only [Act.put, List.setIfInBounds_toArray, List.set_cons_zero, List.set_cons_succ, i64_w, i32_w]
    rfl
  refine done_ (by kernel_rfl) ?_
  go_wp2
  refine bodyPost_ret (results_cct rfl _ _ g3 g4 43 43 #[.slice A n1 cc, .int .i64 (Ra : Int), .bool ca] #[.slice A5 n5 c5, .int .i64 (Rb : Int), .bool cb] (0, 0) (0, 0) _ _ rfl (far3 (put3 H3.out) HG.out.2.2.2.2.2.2.2.2.2 _ _ _) Try.underlying43 rfl info43 rfl (put3 (far3 H4.out (fun e => HG.out.2.2.2.2.2.2.2.2.2 e.symm) _ _ _)) Try.underlying43 rfl info43) rfl ?_
  exact ⟨_, _, rfl, ((HA.out.set3 g3 _ _ _ (fun h => h.2.2.2.1 rfl)).set3 g4 _ _ _ (fun h => h.2.2.2.2 rfl)).toRO (fun k hk => hk.1), ((HV.out.set3 g3 _ _ _ (fun h => h.2.2.2.1 rfl)).set3 g4 _ _ _ (fun h => h.2.2.2.2 rfl)).toRO (fun k hk => hk.1), below3 (below3 HB.out HG.out.2.2.1) HG.out.2.2.2.1⟩
end Go.Proofs.Ytkohkcnajddcoaa.QN
