/- The machine's side of fix.Resolve, second part: takes; no condition but the lengths' bound. -/
import Derived.Test.YtmiepbnjocojhaaRes
import Derived.Outline
import Derived.Deep.DeepMust
namespace Go.Proofs.Ytmiepbnjocojhaa.QN
open Go.RowKit Go.Proofs.YtmiepbnjocojhaaW.PrintWords Go.Proofs.YtmiepbnjocojhaaW.PrintLast Go.Proofs.YtmiepbnjocojhaaW.PrintMore
set_option linter.unusedVariables false
set_option linter.unusedSimpArgs false

def tab_f20.T3 : Bool × List (List Nat × List Nat) := (true, [([], []), ([0], [0]), ([1], [1]), ([2], [2]), ([], []), ([4], [4]), ([5], [5]), ([6], [6]), ([], []), ([8], [8]), ([9], [9]), ([10], [10]), ([11], [11]), ([12], [12]), ([7, 13], [7, 13]), ([14], [14]), ([3, 15], [3, 15]), ([16], [16]), ([], []), ([18, 17, 0, 1, 2, 3, 4, 5, 6, 7, 8, 9, 10, 11, 12, 13, 14, 15, 16, 17, 18], [17, 18])])
def tab_f20.B3 : List Nat := [0, 1, 3, 7, 0, 16, 48, 112, 0, 256, 768, 1792, 3840, 7936, 16368, 32752, 65535, 131071, 0, 524287]
theorem tab_f20.tab3 : rtab .any (opsOf Try.f20 3) = tab_f20.T3 := by kernel_rfl
theorem tab_f20.bits3 : waitsOk tab_f20.T3.2 tab_f20.B3 = true := by kernel_rfl

/-- What takes does: the operators that wait and the spans, the last one first. -/
def takesR (f : S36) (l : List S36) (k : Int) : List Int → List S32 → List S32 → Bool × List Int × List S32 × List S32
  | [], rd, os => (true, [k], ⟨k + 1, k + 1⟩ :: rd, os)
  | t :: rs, rd, os =>
    if f.f2 < (rd_T36 l t).f2 ∨ (f.f2 = (rd_T36 l t).f2 ∧ (rd_T36 l t).f1 = 1 ∧ f.f1 = 1) then
      match rd with
      | y :: x :: rd' => takesR f l k rs (⟨x.f0, y.f1⟩ :: rd') (os.set t.toNat ⟨x.f0, y.f1⟩)
      | _ => (false, [], [], [])
    else if (rd_T36 l t).f2 < f.f2 ∨ ((rd_T36 l t).f1 = 2 ∧ f.f1 = 2) then (true, k :: t :: rs, ⟨k + 1, k + 1⟩ :: rd, os)
    else (false, t :: rs, rd, os)
/-- What holds of the parts. -/
structure Inv (n : Nat) (rs : List Int) (rd os : List S32) : Prop where
  wr : ∀ t ∈ rs, 0 ≤ t ∧ t < n
  dl : rd.length = rs.length + 1
  ol : os.length = n
  nl : n ≤ 1024
  rl : rs.length ≤ 1025

theorem St.rebase {wS w0 W : World} {g : Nat} {v0 vw vd vo : Value} {ws : List Int} {ds os : List S32} (h : St wS w0 W g v0 vw vd vo ws ds os) : St W w0 W g v0 vw vd vo ws ds os :=
  ⟨h.gb, h.gl, h.hw, h.hd, h.ho, h.bl, fun _ _ hc => hc⟩
theorem St.chain {wS w0 W W1 : World} {g : Nat} {v0 vw vd vo : Value} {ws : List Int} {ds os : List S32} (hk : Keeps wS W) (h : St W w0 W1 g v0 vw vd vo ws ds os) : St wS w0 W1 g v0 vw vd vo ws ds os :=
  ⟨h.gb, h.gl, h.hw, h.hd, h.ho, h.bl, fun b cs hc => h.kp b cs (hk b cs hc)⟩
theorem Inv.tail {n : Nat} {t : Int} {rs : List Int} {a b : S32} {rd os : List S32} (h : Inv n (t :: rs) (a :: b :: rd) os) (c d : S32) (i : Nat) : Inv n rs (c :: rd) (os.set i d) :=
  ⟨fun x hx => h.wr x (List.mem_cons_of_mem _ hx), by have := h.dl; simp at this ⊢; omega, by rw [List.length_set]; exact h.ol, h.nl, by have := h.rl; simp at this; omega⟩

theorem kint_32' : ∀ q, q ∈ 32 :: k32.E → q ≠ 3 := by
  intro q hq
  have : q = 32 := by simpa [k32, Kd.iso, Kd.pair, Kd.int, Kd.scalar] using hq
  omega
theorem info3 : (Try.prog.info? 3).map (fun i => (i.zero, i.size, i.bytes)) = some (some (.int .i64 0), 1, 8) := by kernel_rfl
theorem St.appendedW {wS w0 W w7 : World} {g : Nat} {v0 vw vw7 vd vo : Value} {ws ws7 : List Int} {ds os : List S32} (h : St wS w0 W g v0 vw vd vo ws ds os) (hb7 : Below w0.heap.size w0 w7)
    (hw7 : (Kd.int .i64).R 3 w7 w0.heap.size (fun _ => True) vw7 ws7) (hg7 : W.grownBy w7 vw.ownBlock) :
    w7.heap[g]? = some (.cells #[v0, vw, vd, vo] 46 (0, 0)) ∧ St wS w0 (w7.setCell ⟨g, 1, none⟩ vw7) g v0 vw7 vd vo ws7 ds os := by
  have hne : some g ≠ vw.ownBlock := Kd.R_ne h.hw h.gb (by decide)
  have gb7 := blk_grown h.gb hg7 hne
  have hd7 := Kd.R_over h.hd h.hw kint_32' hg7
  have ho7 := Kd.R_over h.ho h.hw kint_32' hg7
  exact ⟨gb7, ⟨blk_put gb7 1 _ rfl, h.gl, Kd.R_set hw7 gb7 kint_E 1 _, Kd.R_set hd7 gb7 k32_E 1 _, Kd.R_set ho7 gb7 k32_E 1 _, below_set hb7 h.gl, fun b cs hc => have h7 := blk_grown (h.kp b cs hc) hg7 (Kd.R_ne h.hw (h.kp b cs hc) (by decide)); blk_far h7 (blk_ne h7 gb7 (by decide)) _⟩⟩

set_option maxHeartbeats 4000000 in
set_option maxRecDepth 100000 in
theorem takes_calls (g : Nat) (A0 : Option Addr) (c0 : Nat) (l : List S36) (vw vd vo : Value) (k : Int) (rs : List Int) (rd os : List S32) (w0 w : World)
    (h : St w w0 w g (.slice A0 l.length c0) vw vd vo rs.reverse rd.reverse os) (hC : Kd.C k36 w0 A0 l.length l) (hk0 : 0 ≤ k) (hk1 : k < l.length) (hI : Inv l.length rs rd os) (hr1 : rs.length ≤ 1024)
    (R : Bool × List Int × List S32 × List S32) (hR : takesR (rd_T36 l k) l k rs rd os = R) :
    Calls Try.prog 20 #[.pointer (some ⟨g, 0, none⟩), .int .i64 k] w fun e w' => e = .returned (.bool R.1) ∧ ∃ vw' vd', St w w0 w' g (.slice A0 l.length c0) vw' vd' vo R.2.1.reverse R.2.2.1.reverse R.2.2.2 := by
  have HS := Aside0.mk h
  have HI := Aside0.mk hI
  have HR := Aside0.mk hR
  have HC0 := Aside0.mk hC
  have HN := Aside0.mk hI.nl
  have HR1 := Aside0.mk hr1
  obtain ⟨ad, rfl, hx0, hx1, hx2, hx3, hx4⟩ := at_T36 (Kd.C_below hC h.bl) k hk0 hk1
  have hg0 : w.cell? ⟨g, 0, none⟩ = some (.slice (some ad) l.length c0) := (blk_cell h.gb 0).trans rfl
  clear h hI hR hC hr1
  generalize hf : rd_T36 l k = f at *
  have Hf := Aside0.mk hf
  clear hf
  go_enter Try.func20, Try.ntmps20
  go_upto_block 0 with (fail)
  try (with_reducible refine wp_scope_body noGoto_bodyPost ?_)
  try (with_reducible apply wp_label)
  try go_upto_block 0 with (fail)
  try (with_reducible apply wp_label)
  try go_upto_block 0 with (fail)
  have hnw : (w.alloc (.cells #[.string f.f0, .int .i64 f.f1, .int .i64 f.f2, .int .i64 f.f3.f0, .int .i64 f.f3.f1] 36)).heap[w.heap.size]? = some (.cells #[.string f.f0, .int .i64 f.f1, .int .i64 f.f2, .int .i64 f.f3.f0, .int .i64 f.f3.f1] 36 (0, 0)) := blk_new w _
  have HNF := Aside0.mk hnw
  have HS1 : Aside0 (St w w0 (w.alloc (.cells #[.string f.f0, .int .i64 f.f1, .int .i64 f.f2, .int .i64 f.f3.f0, .int .i64 f.f3.f1] 36)) g (.slice (some ad) l.length c0) vw vd vo rs.reverse rd.reverse os) := ⟨HS.out.below (below_alloc (Below.refl _ _) _)⟩
  clear hnw HS hx0 hx1 hx2 hx3 hx4 hg0
  generalize w.heap.size = nf at HNF ⊢
  generalize w.alloc (.cells #[.string f.f0, .int .i64 f.f1, .int .i64 f.f2, .int .i64 f.f3.f0, .int .i64 f.f3.f1] 36) = w1 at HNF HS1 ⊢
  go_cut [4] (fun v4 wc => ∃ (vw' vd' : Value) (rs' : List Int) (rd' os' : List S32), v4 = .bool false ∧ Aside0 (St w w0 wc g (.slice (some ad) l.length c0) vw' vd' vo rs'.reverse rd'.reverse os') ∧ Aside0 (R = (true, k :: rs', ⟨k + 1, k + 1⟩ :: rd', os')) ∧ Aside0 (Inv l.length rs' rd' os'))
  case first =>
    go_wp2
    go_loopg [4] (rs.length) (fun kq v4 w' => ∃ (vw' vd' : Value) (rs' : List Int) (rd' os' : List S32), v4 = .bool false ∧ Aside0 (St w w0 w' g (.slice (some ad) l.length c0) vw' vd' vo rs'.reverse rd'.reverse os') ∧ Aside0 (w'.heap[nf]? = some (.cells #[.string f.f0, .int .i64 f.f1, .int .i64 f.f2, .int .i64 f.f3.f0, .int .i64 f.f3.f1] 36 (0, 0))) ∧ Aside0 (takesR f l k rs' rd' os' = R) ∧ Aside0 (Inv l.length rs' rd' os') ∧ Aside0 (rs'.length ≤ kq))
    case atStart => exact ⟨vw, vd, rs, rd, os, rfl, HS1, HNF, HR, HI, ⟨Nat.le_refl _⟩⟩
    case round =>
      clear HS1 HNF HR HI
      obtain ⟨vw', vd', rs', rd', os', rfl, HS, HNF, HR, HI, HK⟩ := hrel
      cases rs' with
      | nil =>
        obtain ⟨A, cw, rfl⟩ := Kd.R_slice HS.out.hw
        have hg1 : wr.cell? ⟨g, 1, none⟩ = some (.slice A 0 cw) := (blk_cell HS.out.gb 1).trans rfl
        go_wp2
        go_meet
        case rel => exact ⟨_, _, [], rd', os', rfl, HS, ⟨HR.out.symm⟩, HI⟩
      | cons t rs' =>
        obtain ⟨bw, cw, rfl, -, -, -⟩ := Kd.R_form HS.out.hw (by simp)
        have hrl : (t :: rs').reverse.length = rs'.length + 1 := by simp
        rw [hrl] at HS
        have HT0 := Aside0.mk (HI.out.wr t (by simp)).1
        have HT1 := Aside0.mk (HI.out.wr t (by simp)).2
        have HRL := Aside0.mk HI.out.rl
        obtain ⟨ad', ead, hx0, hx1, hx2, hx3, hx4⟩ := at_T36 (Kd.C_below HC0.out HS.out.bl) t HT0.out (by have := HT1.out; omega)
        obtain rfl : ad = ad' := Option.some.inj ead
        have hg0 : wr.cell? ⟨g, 0, none⟩ = some (.slice (some ad) l.length c0) := (blk_cell HS.out.gb 0).trans rfl
        have hg1 : wr.cell? ⟨g, 1, none⟩ = some (.slice (some ⟨bw, 0, none⟩) (rs'.length + 1) cw) := (blk_cell HS.out.gb 1).trans rfl
        have hwt : wr.cell? ⟨bw, rs'.length, none⟩ = some (.int .i64 t) := by
          have := (Kd.R_celln (0 : Int) HS.out.hw (rs'.length : Int) (by omega) (by omega)).1
          rw [Int.toNat_natCast] at this
          rw [this]; simp [rdOf]
        have hwn : wrap64 (rs'.length : Int) = (rs'.length : Int) := by have := HRL.out; simp at this; unfold wrap64; omega
        have hlt1 : ((rs'.length : Int) < (rs'.length : Int) + 1) = True := eq_true (by omega)
        have ht0 : (0 ≤ t) = True := eq_true HT0.out
        have ht1 : (t < (l.length : Int)) = True := eq_true (by have := HT1.out; omega)
        clear hrl ead
        generalize htop : rd_T36 l t = top at *
        have HTOP := Aside0.mk htop
        clear htop
        have HS2 := Aside0.mk HS.out.drew
        have HNF2 : Aside0 (wr.drew.heap[nf]? = some (.cells #[.string f.f0, .int .i64 f.f1, .int .i64 f.f2, .int .i64 f.f3.f0, .int .i64 f.f3.f1] 36 (0, 0))) := ⟨HNF.out⟩
        clear HS HNF
        go_wp2
        refine start_ (n := 20) (S := fun w' => w'.cell? ⟨g, 0, none⟩ = some (.slice (some ad) l.length c0) ∧ w'.cell? ⟨g, 1, none⟩ = some (.slice (some ⟨bw, 0, none⟩) (rs'.length + 1) cw) ∧ w'.cell? ⟨bw, rs'.length, none⟩ = some (.int .i64 t) ∧ w'.cell? (ad.add (t.toNat * 5)) = some (.string top.f0) ∧ w'.cell? ⟨(ad.add (t.toNat * 5)).block, (ad.add (t.toNat * 5)).off + 1, none⟩ = some (.int .i64 top.f1) ∧ w'.cell? ⟨(ad.add (t.toNat * 5)).block, (ad.add (t.toNat * 5)).off + 2, none⟩ = some (.int .i64 top.f2) ∧ w'.cell? ⟨(ad.add (t.toNat * 5)).block, (ad.add (t.toNat * 5)).off + 3, none⟩ = some (.int .i64 top.f3.f0) ∧ w'.cell? ⟨(ad.add (t.toNat * 5)).block, (ad.add (t.toNat * 5)).off + 4, none⟩ = some (.int .i64 top.f3.f1)) (ds := [19]) #[false, false, false, false, false, false, false, false, false, false, false, false, false, false, false, false, false, false, false, false] (by kernel_rfl) rfl rfl ⟨hg0, hg1, hwt, hx0, hx1, hx2, hx3, hx4⟩ (fun hHeld => ?_); refine with_tabW tab_f20.tab3 tab_f20.bits3 (fun HT_ HW_ => ?_)
        generalize wr.drew = w2 at HS2 HNF2 hHeld ⊢
        refine pure_ (i := 0) (N := some 20) (v := ?_) (a' := ?_) #[true, false, false, false, false, false, false, false, false, false, false, false, false, false, false, false, false, false, false, false] rfl rfl (any_of HT_.out (by kernel_rfl)) (fun _ _ _ h => h) (Or.inl ⟨by rfl, ?_⟩) ?_ ?_
        rotate_left
        · intro w'
          go_simp
          with_reducible rfl
        rotate_left
        · simp only [Act.put, List.setIfInBounds_toArray, List.set_cons_zero, List.set_cons_succ, i64_w, i32_w]
          rfl
        refine pure_ (i := 1) (N := some 21) (v := ?_) (a' := ?_) #[true, true, false, false, false, false, false, false, false, false, false, false, false, false, false, false, false, false, false, false] rfl rfl (any_of HT_.out (by kernel_rfl)) (fun _ _ _ h => h) (Or.inl ⟨by rfl, ?_⟩) ?_ ?_
        rotate_left
        · intro w'
          go_simp
          with_reducible rfl
        rotate_left
        · simp only [Act.put, List.setIfInBounds_toArray, List.set_cons_zero, List.set_cons_succ, i64_w, i32_w]
          rfl
        refine pure_ (i := 2) (N := some 22) (v := ?_) (a' := ?_) #[true, true, true, false, false, false, false, false, false, false, false, false, false, false, false, false, false, false, false, false] rfl rfl (any_of HT_.out (by kernel_rfl)) (fun _ _ _ h => h) (Or.inl ⟨by rfl, ?_⟩) ?_ ?_
        rotate_left
        · intro w'
          go_simp
          with_reducible rfl
        rotate_left
        · simp only [Act.put, List.setIfInBounds_toArray, List.set_cons_zero, List.set_cons_succ, i64_w, i32_w]
          rfl
        refine pure_ (i := 4) (N := some 24) (v := ?_) (a' := ?_) #[true, true, true, false, true, false, false, false, false, false, false, false, false, false, false, false, false, false, false, false] rfl rfl (any_of HT_.out (by kernel_rfl)) (fun _ _ _ h => h) (Or.inl ⟨by rfl, ?_⟩) ?_ ?_
        rotate_left
        · intro w'
          go_simp
          with_reducible rfl
        rotate_left
        · simp only [Act.put, List.setIfInBounds_toArray, List.set_cons_zero, List.set_cons_succ, i64_w, i32_w]
          rfl
        refine pure_ (i := 5) (N := some 25) (v := ?_) (a' := ?_) #[true, true, true, false, true, true, false, false, false, false, false, false, false, false, false, false, false, false, false, false] rfl rfl (any_of HT_.out (by kernel_rfl)) (fun _ _ _ h => h) (Or.inl ⟨by rfl, ?_⟩) ?_ ?_
        rotate_left
        · intro w'
          go_simp
          with_reducible rfl
        rotate_left
        · simp only [Act.put, List.setIfInBounds_toArray, List.set_cons_zero, List.set_cons_succ, i64_w, i32_w]
          rfl
        refine pure_ (i := 6) (N := some 26) (v := ?_) (a' := ?_) #[true, true, true, false, true, true, true, false, false, false, false, false, false, false, false, false, false, false, false, false] rfl rfl (any_of HT_.out (by kernel_rfl)) (fun _ _ _ h => h) (Or.inl ⟨by rfl, ?_⟩) ?_ ?_
        rotate_left
        · intro w'
          go_simp
          with_reducible rfl
        rotate_left
        · simp only [Act.put, List.setIfInBounds_toArray, List.set_cons_zero, List.set_cons_succ, i64_w, i32_w]
          rfl
        refine pure_ (i := 8) (N := some 28) (v := ?_) (a' := ?_) #[true, true, true, false, true, true, true, false, true, false, false, false, false, false, false, false, false, false, false, false] rfl rfl (any_of HT_.out (by kernel_rfl)) (fun _ _ _ h => h) (Or.inl ⟨by rfl, ?_⟩) ?_ ?_
        rotate_left
        · intro w'
          go_simp
          with_reducible rfl
        rotate_left
        · simp only [Act.put, List.setIfInBounds_toArray, List.set_cons_zero, List.set_cons_succ, i64_w, i32_w]
          rfl
        refine pure_ (i := 9) (N := some 29) (v := ?_) (a' := ?_) #[true, true, true, false, true, true, true, false, true, true, false, false, false, false, false, false, false, false, false, false] rfl rfl (any_of HT_.out (by kernel_rfl)) (fun _ _ _ h => h) (Or.inl ⟨by rfl, ?_⟩) ?_ ?_
        rotate_left
        · intro w'
          go_simp
          with_reducible rfl
        rotate_left
        · simp only [Act.put, List.setIfInBounds_toArray, List.set_cons_zero, List.set_cons_succ, i64_w, i32_w]
          rfl
        refine pure_ (i := 10) (N := some 30) (v := ?_) (a' := ?_) #[true, true, true, false, true, true, true, false, true, true, true, false, false, false, false, false, false, false, false, false] rfl rfl (any_of HT_.out (by kernel_rfl)) (fun _ _ _ h => h) (Or.inl ⟨by rfl, ?_⟩) ?_ ?_
        rotate_left
        · intro w'
          go_simp
          with_reducible rfl
        rotate_left
        · simp only [Act.put, List.setIfInBounds_toArray, List.set_cons_zero, List.set_cons_succ, i64_w, i32_w]
          rfl
        refine take_ (i := 3) (N := some 23) (v := ?_) (a' := ?_) #[true, true, true, true, true, true, true, false, true, true, true, false, false, false, false, false, false, false, false, false] rfl rfl (take_ofW HT_.out HW_.out (by kernel_rfl)) (fun _ _ _ h => h) (Or.inl ⟨by rfl, ?_⟩) hHeld ?_ ?_
        rotate_left
        · rintro w' ⟨s0, s1, s2, s3, s4, s5, s6, s7⟩
          go_simp
          with_reducible rfl
        rotate_left
        · simp only [Act.put, List.setIfInBounds_toArray, List.set_cons_zero, List.set_cons_succ, i64_w, i32_w]
          rfl
        refine take_ (i := 7) (N := some 27) (v := ?_) (a' := ?_) #[true, true, true, true, true, true, true, true, true, true, true, false, false, false, false, false, false, false, false, false] rfl rfl (take_ofW HT_.out HW_.out (by kernel_rfl)) (fun _ _ _ h => h) (Or.inl ⟨by rfl, ?_⟩) hHeld ?_ ?_
        rotate_left
        · rintro w' ⟨s0, s1, s2, s3, s4, s5, s6, s7⟩
          go_simp
          with_reducible rfl
        rotate_left
        · simp only [Act.put, List.setIfInBounds_toArray, List.set_cons_zero, List.set_cons_succ, i64_w, i32_w]
          rfl
        refine take_ (i := 11) (N := some 31) (v := ?_) (a' := ?_) #[true, true, true, true, true, true, true, true, true, true, true, true, false, false, false, false, false, false, false, false] rfl rfl (take_ofW HT_.out HW_.out (by kernel_rfl)) (fun _ _ _ h => h) (Or.inl ⟨by rfl, ?_⟩) hHeld ?_ ?_
        rotate_left
        · rintro w' ⟨s0, s1, s2, s3, s4, s5, s6, s7⟩
          go_simp
          with_reducible rfl
        rotate_left
        · simp only [Act.put, List.setIfInBounds_toArray, List.set_cons_zero, List.set_cons_succ, i64_w, i32_w]
          rfl
        refine pure_ (i := 12) (N := some 32) (v := ?_) (a' := ?_) #[true, true, true, true, true, true, true, true, true, true, true, true, true, false, false, false, false, false, false, false] rfl rfl (any_of HT_.out (by kernel_rfl)) (fun _ _ _ h => h) (Or.inl ⟨by rfl, ?_⟩) ?_ ?_
        rotate_left
        · intro w'
          go_simp
          with_reducible rfl
        rotate_left
        · simp only [Act.put, List.setIfInBounds_toArray, List.set_cons_zero, List.set_cons_succ, i64_w, i32_w]
          rfl
        refine pure_ (i := 13) (N := some 33) (v := ?_) (a' := ?_) #[true, true, true, true, true, true, true, true, true, true, true, true, true, true, false, false, false, false, false, false] rfl rfl (any_of HT_.out (by kernel_rfl)) (fun _ _ _ h => h) (Or.inl ⟨by rfl, ?_⟩) ?_ ?_
        rotate_left
        · intro w'
          go_simp
          with_reducible rfl
        rotate_left
        · simp only [Act.put, List.setIfInBounds_toArray, List.set_cons_zero, List.set_cons_succ, i64_w, i32_w]
          rfl
        refine pure_ (i := 14) (N := some 34) (v := ?_) (a' := ?_) #[true, true, true, true, true, true, true, true, true, true, true, true, true, true, true, false, false, false, false, false] rfl rfl (any_of HT_.out (by kernel_rfl)) (fun _ _ _ h => h) (Or.inl ⟨by rfl, ?_⟩) ?_ ?_
        rotate_left
        · intro w'
          go_simp
          with_reducible rfl
        rotate_left
        · simp only [Act.put, List.setIfInBounds_toArray, List.set_cons_zero, List.set_cons_succ, i64_w, i32_w]
          rfl
        refine take_ (i := 15) (N := some 35) (v := ?_) (a' := ?_) #[true, true, true, true, true, true, true, true, true, true, true, true, true, true, true, true, false, false, false, false] rfl rfl (take_ofW HT_.out HW_.out (by kernel_rfl)) (fun _ _ _ h => h) (Or.inl ⟨by rfl, ?_⟩) hHeld ?_ ?_
        rotate_left
        · rintro w' ⟨s0, s1, s2, s3, s4, s5, s6, s7⟩
          go_simp
          with_reducible rfl
        rotate_left
        · simp only [Act.put, List.setIfInBounds_toArray, List.set_cons_zero, List.set_cons_succ, i64_w, i32_w]
          rfl
        refine pure_ (i := 16) (N := some 36) (v := ?_) (a' := ?_) #[true, true, true, true, true, true, true, true, true, true, true, true, true, true, true, true, true, false, false, false] rfl rfl (any_of HT_.out (by kernel_rfl)) (fun _ _ _ h => h) (Or.inl ⟨by rfl, ?_⟩) ?_ ?_
        rotate_left
        · intro w'
          go_simp
          with_reducible rfl
        rotate_left
        · simp only [Act.put, List.setIfInBounds_toArray, List.set_cons_zero, List.set_cons_succ, i64_w, i32_w]
          rfl
        refine take_ (i := 17) (N := some 37) (v := ?_) (a' := ?_) #[true, true, true, true, true, true, true, true, true, true, true, true, true, true, true, true, true, true, false, false] rfl rfl (take_ofW HT_.out HW_.out (by kernel_rfl)) (fun _ _ _ h => h) (Or.inl ⟨by rfl, ?_⟩) hHeld ?_ ?_
        rotate_left
        · rintro w' ⟨s0, s1, s2, s3, s4, s5, s6, s7⟩
          go_simp
          with_reducible rfl
        rotate_left
        · simp only [Act.put, List.setIfInBounds_toArray, List.set_cons_zero, List.set_cons_succ, i64_w, i32_w]
          rfl
        refine one_ (i := 18) (N := some 6) #[true, true, true, true, true, true, true, true, true, true, true, true, true, true, true, true, true, true, true, false] rfl rfl (one_of HT_.out (by kernel_rfl)) (by decide) (fun K hK => ?_)
        refine value_ (w1 := ?_) (v := ?_) (by rfl) rfl ?_ ?_
        rotate_left 2
        · go_simp
          constructor
          · rfl
          · rfl
        refine hK.out _ _ ⟨(cell_up hHeld.1), (cell_up hHeld.2.1), (cell_up hHeld.2.2.1), (cell_up hHeld.2.2.2.1), (cell_up hHeld.2.2.2.2.1), (cell_up hHeld.2.2.2.2.2.1), (cell_up hHeld.2.2.2.2.2.2.1), (cell_up hHeld.2.2.2.2.2.2.2)⟩ (fun hHeld => ?_)
        clear hK K
        refine norm_ (a' := ?_) ?_ ?_
        rotate_left
        · show Act.put _ (some 6) _ = _
          simp only [Act.put, List.setIfInBounds_toArray, List.set_cons_zero, List.set_cons_succ, i64_w, i32_w]
          rfl
        refine last_ (i := 19) (N := none) #[true, true, true, true, true, true, true, true, true, true, true, true, true, true, true, true, true, true, true, true] rfl rfl (one_of HT_.out (by kernel_rfl)) (by decide) (fun K hK => ?_)
        refine skip_ (w1 := ?_) (by rfl) rfl ?_ ?_
        rotate_left
        · go_simp
          rfl
        refine hK.out _ _ ?_
        clear hK K
        refine done_ (done_of HT_.out (by kernel_rfl)) ?_
        clear hHeld hx0 hx1 hx2 hx3 hx4 hg0 hg1 hwt hwn hlt1 ht0 ht1
        have hnt : (w2.alloc (.cells #[.string top.f0, .int .i64 top.f1, .int .i64 top.f2, .int .i64 top.f3.f0, .int .i64 top.f3.f1] 36)).heap[w2.heap.size]? = some (.cells #[.string top.f0, .int .i64 top.f1, .int .i64 top.f2, .int .i64 top.f3.f0, .int .i64 top.f3.f1] 36 (0, 0)) := blk_new w2 _
        have HS3 : Aside0 (St w w0 (w2.alloc (.cells #[.string top.f0, .int .i64 top.f1, .int .i64 top.f2, .int .i64 top.f3.f0, .int .i64 top.f3.f1] 36)) g (.slice (some ad) l.length c0) (.slice (some ⟨bw, 0, none⟩) (rs'.length + 1) cw) vd' vo (t :: rs').reverse rd'.reverse os') := ⟨HS2.out.below (below_alloc (Below.refl _ _) _)⟩
        have HNF3 : Aside0 ((w2.alloc (.cells #[.string top.f0, .int .i64 top.f1, .int .i64 top.f2, .int .i64 top.f3.f0, .int .i64 top.f3.f1] 36)).heap[nf]? = some (.cells #[.string f.f0, .int .i64 f.f1, .int .i64 f.f2, .int .i64 f.f3.f0, .int .i64 f.f3.f1] 36 (0, 0))) := ⟨blk_alloc HNF2.out _⟩
        clear HS2 HNF2
        generalize w2.heap.size = nt at hnt ⊢
        generalize w2.alloc (.cells #[.string top.f0, .int .i64 top.f1, .int .i64 top.f2, .int .i64 top.f3.f0, .int .i64 top.f3.f1] 36) = w3 at hnt HS3 HNF3 ⊢
        have ht1 : w3.cell? ⟨nt, 1, none⟩ = some (.int .i64 top.f1) := (blk_cell hnt 1).trans rfl
        have ht2 : w3.cell? ⟨nt, 2, none⟩ = some (.int .i64 top.f2) := (blk_cell hnt 2).trans rfl
        have hf1 : w3.cell? ⟨nf, 1, none⟩ = some (.int .i64 f.f1) := (blk_cell HNF3.out 1).trans rfl
        have hf2 : w3.cell? ⟨nf, 2, none⟩ = some (.int .i64 f.f2) := (blk_cell HNF3.out 2).trans rfl
        clear hnt
        have hdl := HI.out.dl
        obtain ⟨y, x, rd2, rfl⟩ : ∃ y x rd2, rd' = y :: x :: rd2 := by
          match rd', hdl with
          | y :: x :: rd2, _ => exact ⟨y, x, rd2, rfl⟩
        clear hdl
        by_cases c1 : f.f2 < top.f2
        · have HR2 : Aside0 (takesR f l k rs' (⟨x.f0, y.f1⟩ :: rd2) (os'.set t.toNat ⟨x.f0, y.f1⟩) = R) := by
            refine ⟨?_⟩
            have := HR.out
            simp only [takesR] at this
            rw [if_pos (Or.inl (by rw [HTOP.out]; exact c1))] at this
            exact this
          have c1b : decide (f.f2 < top.f2) = true := decide_eq_true c1
          clear c1 HR
          go_wp2_with (go_at_call 21; refine (reduce_calls g (.slice (some ad) l.length c0) (.slice (some ⟨bw, 0, none⟩) (rs'.length + 1) cw) vd' vo rs'.reverse t rd2.reverse x y os' w3 w0 w3 ?hS ?h0 ?h1 ?h2 ?h3 ?h4).mono ?_; (case hS => exact (by have := HS3.out.rebase; simpa [List.append_assoc] using this)); (case h0 => exact HT0.out); (case h1 => have := HT1.out; have := HI.out.ol; omega); (case h2 => have := HRL.out; simp at this ⊢; omega); (case h3 => have := HI.out.dl; have := HRL.out; simp at *; omega); (case h4 => have := HI.out.ol; have := HN.out; omega); rintro e w4 ⟨rfl, vw4, vd4, hs4⟩; have HS4 := Aside0.mk (St.chain HS3.out.kp hs4); have HNF4 := Aside0.mk (hs4.kp _ _ HNF3.out); clear hs4 HS3 HNF3)
          go_roundg (rs'.length)
          case measure => have := HK.out; simp at this; omega
          case rel => exact ⟨vw4, vd4, rs', ⟨x.f0, y.f1⟩ :: rd2, os'.set t.toNat ⟨x.f0, y.f1⟩, rfl, ⟨by simpa using HS4.out⟩, HNF4, HR2, ⟨HI.out.tail _ _ _⟩, ⟨Nat.le_refl _⟩⟩
        · have c1b : decide (f.f2 < top.f2) = false := decide_eq_false c1
          by_cases c2 : top.f2 < f.f2
          · have HR2 : Aside0 (R = (true, k :: t :: rs', ⟨k + 1, k + 1⟩ :: y :: x :: rd2, os')) := by
              refine ⟨?_⟩
              have := HR.out
              simp only [takesR] at this
              rw [HTOP.out, if_neg (by omega), if_pos (Or.inl c2)] at this
              exact this.symm
            have c2b : decide (top.f2 < f.f2) = true := decide_eq_true c2
            clear c1 c2 HR
            go_wp2
            go_meet
            case rel => exact ⟨_, _, t :: rs', _, os', rfl, HS3, HR2, HI⟩
          · have c2b : decide (top.f2 < f.f2) = false := decide_eq_false c2
            by_cases c3 : top.f1 = 1
            · have c3b : (top.f1 == 1) = true := beq_iff_eq.mpr c3
              have c3c : (top.f1 == 2) = false := beq_eq_false_iff_ne.mpr (by omega)
              by_cases c4 : f.f1 = 1
              · have c4b : (f.f1 == 1) = true := beq_iff_eq.mpr c4
                have HR2 : Aside0 (takesR f l k rs' (⟨x.f0, y.f1⟩ :: rd2) (os'.set t.toNat ⟨x.f0, y.f1⟩) = R) := by
                  refine ⟨?_⟩
                  have := HR.out
                  simp only [takesR] at this
                  rw [if_pos (Or.inr (by rw [HTOP.out]; omega))] at this
                  exact this
                clear c1 c2 c3 c4 HR
                go_wp2_with (go_at_call 21; refine (reduce_calls g (.slice (some ad) l.length c0) (.slice (some ⟨bw, 0, none⟩) (rs'.length + 1) cw) vd' vo rs'.reverse t rd2.reverse x y os' w3 w0 w3 ?hS ?h0 ?h1 ?h2 ?h3 ?h4).mono ?_; (case hS => exact (by have := HS3.out.rebase; simpa [List.append_assoc] using this)); (case h0 => exact HT0.out); (case h1 => have := HT1.out; have := HI.out.ol; omega); (case h2 => have := HRL.out; simp at this ⊢; omega); (case h3 => have := HI.out.dl; have := HRL.out; simp at *; omega); (case h4 => have := HI.out.ol; have := HN.out; omega); rintro e w4 ⟨rfl, vw4, vd4, hs4⟩; have HS4 := Aside0.mk (St.chain HS3.out.kp hs4); have HNF4 := Aside0.mk (hs4.kp _ _ HNF3.out); clear hs4 HS3 HNF3)
                go_roundg (rs'.length)
                case measure => have := HK.out; simp at this; omega
                case rel => exact ⟨vw4, vd4, rs', ⟨x.f0, y.f1⟩ :: rd2, os'.set t.toNat ⟨x.f0, y.f1⟩, rfl, ⟨by simpa using HS4.out⟩, HNF4, HR2, ⟨HI.out.tail _ _ _⟩, ⟨Nat.le_refl _⟩⟩
              · have c4b : (f.f1 == 1) = false := beq_eq_false_iff_ne.mpr c4
                have HR2 : Aside0 (R = (false, t :: rs', y :: x :: rd2, os')) := by
                  refine ⟨?_⟩
                  have := HR.out
                  simp only [takesR] at this
                  rw [HTOP.out, if_neg (by omega), if_neg (by omega)] at this
                  exact this.symm
                clear c1 c2 c3 c4 HR
                go_wp2
                go_ret
                exact ⟨by rw [HR2.out]; rfl, _, _, by rw [HR2.out]; exact HS3.out⟩
            · have c3b : (top.f1 == 1) = false := beq_eq_false_iff_ne.mpr c3
              by_cases c5 : top.f1 = 2
              · have c5b : (top.f1 == 2) = true := beq_iff_eq.mpr c5
                by_cases c6 : f.f1 = 2
                · have c6b : (f.f1 == 2) = true := beq_iff_eq.mpr c6
                  have HR2 : Aside0 (R = (true, k :: t :: rs', ⟨k + 1, k + 1⟩ :: y :: x :: rd2, os')) := by
                    refine ⟨?_⟩
                    have := HR.out
                    simp only [takesR] at this
                    rw [HTOP.out, if_neg (by omega), if_pos (Or.inr ⟨c5, c6⟩)] at this
                    exact this.symm
                  clear c1 c2 c3 c5 c6 HR
                  go_wp2
                  go_meet
                  case rel => exact ⟨_, _, t :: rs', _, os', rfl, HS3, HR2, HI⟩
                · have c6b : (f.f1 == 2) = false := beq_eq_false_iff_ne.mpr c6
                  have HR2 : Aside0 (R = (false, t :: rs', y :: x :: rd2, os')) := by
                    refine ⟨?_⟩
                    have := HR.out
                    simp only [takesR] at this
                    rw [HTOP.out, if_neg (by omega), if_neg (by omega)] at this
                    exact this.symm
                  clear c1 c2 c3 c5 c6 HR
                  go_wp2
                  go_ret
                  exact ⟨by rw [HR2.out]; rfl, _, _, by rw [HR2.out]; exact HS3.out⟩
              · have c5b : (top.f1 == 2) = false := beq_eq_false_iff_ne.mpr c5
                have HR2 : Aside0 (R = (false, t :: rs', y :: x :: rd2, os')) := by
                  refine ⟨?_⟩
                  have := HR.out
                  simp only [takesR] at this
                  rw [HTOP.out, if_neg (by omega), if_neg (by omega)] at this
                  exact this.symm
                clear c1 c2 c3 c5 HR
                go_wp2
                go_ret
                exact ⟨by rw [HR2.out]; rfl, _, _, by rw [HR2.out]; exact HS3.out⟩
  case rest =>
    obtain ⟨vw', vd', rs', rd', os', rfl, HS, HR2, HI2⟩ := hcut
    clear HR HI HS1 HNF
    obtain ⟨AW, cw, rfl⟩ := Kd.R_slice HS.out.hw
    obtain ⟨bd, cd, rfl, -, -, -⟩ := Kd.R_form HS.out.hd (by have := HI2.out.dl; simp; omega)
    have hlw : rs'.reverse.length = rs'.length := by simp
    have hld : rd'.reverse.length = rd'.length := by simp
    rw [hlw, hld] at HS
    clear hlw hld
    have hg1 : wc.cell? ⟨g, 1, none⟩ = some (.slice AW rs'.length cw) := (blk_cell HS.out.gb 1).trans rfl
    have hk1 : wrap64 (k + 1) = k + 1 := by have := HN.out; unfold wrap64; omega
    go_wp2_with (first | ((with_reducible refine gate_builtin (b := .append) (xs := #[.tmp 76, .tmp 78]) rfl ?_); at_builtin; refine Kd.R_append (Kd.int .i64) (w0 := w0) (W := wc) w0.heap.size rfl (.tmp 76) (.tmp 78) 44 3 (.int .i64 0) 8 rfl Try.underlying44 info3 rfl (by decide) (by omega) (.slice AW rs'.length cw) rs'.reverse k [.int .i64 k] (fun _ => True) (fun _ => False) rfl rfl rfl (fun _ hk => hk.elim) (fun _ _ => trivial) HS.out.hw HS.out.bl HS.out.bl.size (by have := HI2.out.rl; simp; omega) ?_; intro vw7 w7 hw7 hb7 hg7 hat7; obtain ⟨bw7, cw7, rfl, -, -, -⟩ := Kd.R_form hw7 (by simp); obtain ⟨gb7, hs7⟩ := St.appendedW HS.out hb7 hw7 hg7; have HS7 := Aside0.mk hs7; have hf7 : w7.frozen? ⟨g, 1, none⟩ = false := blk_frozen gb7 1; have hc7 : w7.cell? ⟨g, 1, none⟩ = some (.slice AW rs'.length cw) := (blk_cell gb7 1).trans rfl; generalize (rs'.reverse ++ [k]).length = n7 at HS7 ⊢; have hg2 : w7.cell? ⟨g, 2, none⟩ = some (.slice (some ⟨bd, 0, none⟩) rd'.length cd) := (blk_cell gb7 2).trans rfl; generalize hw8 : w7.setCell ⟨g, 1, none⟩ (.slice (some ⟨bw7, 0, none⟩) n7 cw7) = w8 at HS7; have HW8 := Aside0.mk hw8; have HZ8 : Aside0 (w8.heap.size = w7.heap.size) := ⟨by rw [← hw8]; simp⟩; clear hs7 gb7 hw7 hb7 hg7 hat7 HS hg1 hw8) | ((with_reducible refine gate_builtin (b := .append) (xs := #[.tmp 86, .tmp 92]) rfl ?_); at_builtin; go_must (rw [HW8.out]); go_must (refine Kd.R_append k32 (w0 := w0) (W := w8) w0.heap.size rfl (.tmp 86) (.tmp 92) 23 32 (.agg #[(.int .i64 0), (.int .i64 0)]) 16 rfl Try.underlying23 info32 rfl (by decide) (by omega) (.slice (some ⟨bd, 0, none⟩) rd'.length cd) rd'.reverse ⟨k + 1, k + 1⟩ [.int .i64 (k + 1), .int .i64 (k + 1)] (fun k => some k ≠ vo.ownBlock) (fun _ => False) rfl (by rw [HZ8.out]; rfl) (k32_mkM _ _ _ ⟨k + 1, k + 1⟩) (fun _ hk => hk.elim) (Kd.fresh_ok HS7.out.ho) HS7.out.hd HS7.out.bl HS7.out.bl.size (by have := HI2.out.rl; have := HI2.out.dl; simp; omega) ?_); go_must (intro vd7 w10 hd7 hb7 hg7 hat7; obtain ⟨bd7, cd7, rfl, -, -, -⟩ := Kd.R_form hd7 (by simp); obtain ⟨gb7, hs7⟩ := St.appended HS7.out hb7 hd7 hg7 hat7 (by have := HI2.out.dl; simp; omega); have HS9 := Aside0.mk hs7; generalize (rd'.reverse ++ [(⟨k + 1, k + 1⟩ : S32)]).length = n9 at HS9 ⊢; have hf9 : w10.frozen? ⟨g, 2, none⟩ = false := blk_frozen gb7 2; have hc9 : w10.cell? ⟨g, 2, none⟩ = some (.slice (some ⟨bd, 0, none⟩) rd'.length cd) := (blk_cell gb7 2).trans rfl; clear hs7 gb7 hd7 hb7 hg7 hat7)))
    go_ret
    exact ⟨by rw [HR2.out]; rfl, _, _, by rw [HR2.out]; simpa using HS9.out⟩
end Go.Proofs.Ytmiepbnjocojhaa.QN
