/- The law SpoolPlays: the walk, with what is known at each place; it returns true for every input. -/
import Derived.Test.YtkohkcnajddcoaaRefB
import Derived.Outline
namespace Go.Proofs.Ytkohkcnajddcoaa.QN
open Go.RowKit Go.Conc Go.Proofs.YtkohkcnajddcoaaW.PrintWords Go.Proofs.YtkohkcnajddcoaaW.PrintLast Go.Proofs.YtkohkcnajddcoaaW.PrintMore
set_option linter.unusedVariables false
set_option linter.unusedSimpArgs false

def tab_f5.T42 : Bool × List (List Nat × List Nat) := (true, [([], []), ([], []), ([0, 1], [0, 1]), ([], []), ([3], [3]), ([2, 4, 2], [2, 4]), ([5, 5], [5]), ([6], [6]), ([6], [6]), ([7, 8, 6, 6], [6, 7, 8]), ([6], [6]), ([10, 6], [6, 10]), ([9, 11, 9, 6], [6, 9, 11]), ([6, 12], [6, 12]), ([13, 12], [13]), ([14, 14], [14]), ([14, 15], [14, 15]), ([16, 15, 0, 1, 2, 3, 4, 5, 6, 7, 8, 9, 10, 11, 12, 13, 14, 15, 16], [16])])
def tab_f5.B42 : List Nat := [0, 0, 3, 0, 8, 31, 63, 127, 127, 511, 127, 1151, 4095, 8191, 16383, 32767, 65535, 131071]
theorem tab_f5.tab42 : rtab .any (opsOf Try.f5 42) = tab_f5.T42 := by kernel_rfl
theorem tab_f5.bits42 : waitsOk tab_f5.T42.2 tab_f5.B42 = true := by kernel_rfl
/-! #### struct type 45 -/
structure S45 where
  f0 : Int
  f1 : Int
def z45 : S45 := ⟨(0 : Int), (0 : Int)⟩
def k45 : Kd S45 := Kd.iso (Kd.pair (Kd.int .i64) (Kd.int .i64)) (fun x : S45 => (x.f0, x.f1))
theorem k45_open {w : World} {x : S45} {cs : List Value} (h : k45.K w x cs) : cs = [.int .i64 x.f0, .int .i64 x.f1] := by
  obtain ⟨_, _, rfl, rfl, rfl⟩ := h
  exact rfl
def rd_T45 (xs : List S45) (i : Int) : S45 := xs.getD i.toNat z45
theorem at_T45 {w : World} {A : Option Addr} {n : Nat} {xs : List S45} (h : Kd.C k45 w A n xs) (i : Int) (h0 : 0 ≤ i) (h1 : i < n) : ∃ ad , A = some ad ∧ w.cell? (ad.add (i.toNat * 2)) = some (.int .i64 (rd_T45 xs i).f0) ∧ w.cell? ⟨(ad.add (i.toNat * 2)).block, (ad.add (i.toNat * 2)).off + 1, none⟩ = some (.int .i64 (rd_T45 xs i).f1) := by
  obtain ⟨ad, c, e, _, hK, hc0⟩ := Kd.C_get h z45 i h0 h1
  have hc : ∀ j u, c[j]? = some u → w.cell? (ad.add (i.toNat * 2 + j)) = some u := hc0
  obtain rfl := k45_open hK
  exact ⟨ad, e, hc 0 _ rfl, by rw [← add_field _ _ 1 (by omega)]; exact hc 1 _ rfl⟩
/-! #### calls told for each state at once -/
section
variable {w0 W : World} {p c cap B : Nat} {v : Value} {xs : List Int} {cl : Bool}
theorem len_V {T : TypeId} (h : Sw T w0 W p c cap (V xs) cl) : xs.length ≤ cap ∧ cap ≤ 1024 := ⟨by have := h.sp.hl; rw [V_len] at this; exact this, h.sp.hc⟩
theorem sPut_any (x : Int) (h : Sw 62 w0 W p c cap (V xs) cl) (b : Bool) (hb : b = (!cl && decide (xs.length < cap))) : Calls Try.prog 9 #[.pointer (some ⟨p, 0, none⟩), .int .i64 x] W fun e w' => e = .returned (.bool b) ∧ Sw 62 w0 w' p c cap (V (if b then xs ++ [x] else xs)) cl ∧ Kept W w' (fun k => k = p ∨ k = c) := by
  cases cl with
  | true =>
    simp at hb
    subst hb
    exact (putI_shut _ h.sp).mono (fun e w' ⟨h1, h2⟩ => ⟨h1, by subst h2; exact h, by subst h2; exact Kept.refl _ _⟩)
  | false =>
    by_cases hl : xs.length < cap
    · simp [hl] at hb
      subst hb
      exact (swI_put _ h (by rw [V_len]; exact hl)).mono (fun e w' ⟨h1, h2, h3⟩ => ⟨h1, by simpa [V] using h2, h3.mono (fun k hk => Or.inr hk)⟩)
    · simp [hl] at hb
      subst hb
      exact (putI_full _ h.sp (by rw [V_len]; have := (len_V h).1; omega)).mono (fun e w' ⟨h1, h2⟩ => ⟨h1, by subst h2; exact h, by subst h2; exact Kept.refl _ _⟩)
theorem rPut_any (R : Nat) (x : Int) (h : RO W B v xs) (hB : B ≤ W.heap.size) (hR : R ≤ 1024) (b : Bool) (hb : b = (!cl && decide (xs.length < R))) : Calls Try.prog 21 #[.agg #[v, .int .i64 (R : Int), .bool cl], .int .i64 x] W fun e w' => ∃ v', e = .returned (.tuple #[.agg #[v', .int .i64 (R : Int), .bool cl], .bool b]) ∧ RO w' B v' (if b then xs ++ [x] else xs) ∧ Below W.heap.size W w' := by
  by_cases hy : cl = false ∧ xs.length < R
  · obtain ⟨rfl, hl⟩ := hy
    simp [hl] at hb
    subst hb
    exact (refPut_yes R x h hl hR).mono (fun e w' ⟨v', h1, h2, h3⟩ => ⟨v', h1, by
      obtain ⟨A, cc, e, h4, h5, h6⟩ := h2
      exact ⟨A, cc, e, h4, h5, fun a ha => ⟨Nat.le_trans hB (h6 a ha).1, (h6 a ha).2⟩⟩, h3⟩)
  · have hn : cl = true ∨ (cl = false ∧ R ≤ xs.length) := by
      cases cl with
      | true => exact Or.inl rfl
      | false => exact Or.inr ⟨rfl, by
          apply Classical.byContradiction
          intro h; exact hy ⟨rfl, by omega⟩⟩
    have hb2 : b = false := by
      rcases hn with rfl | ⟨rfl, hl⟩
      · simpa using hb
      · have : ¬ xs.length < R := by omega
        simpa [this] using hb
    subst hb2
    exact (refPut_no R cl x h hn).mono (fun e w' ⟨h1, h2⟩ => ⟨v, h1, h.below h2, h2⟩)
theorem sTake_any (h : Sw 62 w0 W p c cap (V xs) cl) : Calls Try.prog 13 #[.pointer (some ⟨p, 0, none⟩)] W fun e w' => e = .returned (.tuple #[.int .i64 (xs.headD 0), .bool (!xs.isEmpty)]) ∧ Sw 62 w0 w' p c cap (V xs.tail) cl ∧ Kept W w' (fun k => k = p ∨ k = c) := by
  cases xs with
  | nil => exact (takeI_none h.sp).mono (fun e w' ⟨h1, h2⟩ => ⟨h1, by subst h2; exact h, by subst h2; exact Kept.refl _ _⟩)
  | cons x xs => exact (swI_take (.int .i64 x) (xs := V xs) h).mono (fun e w' ⟨h1, h2, h3⟩ => ⟨h1, h2, h3.mono (fun k hk => Or.inr hk)⟩)
theorem rTake_any (R : Nat) (h : RO W B v xs) (hB : B ≤ W.heap.size) (hx : xs.length ≤ 1024) : Calls Try.prog 22 #[.agg #[v, .int .i64 (R : Int), .bool cl]] W fun e w' => ∃ v', e = .returned (.tuple #[.agg #[v', .int .i64 (R : Int), .bool cl], .int .i64 (xs.headD 0), .bool (!xs.isEmpty)]) ∧ RO w' B v' xs.tail ∧ Below W.heap.size W w' := by
  cases xs with
  | nil => exact (refTake_no R cl h).mono (fun e w' ⟨h1, h2⟩ => ⟨v, h1, h.below h2, h2⟩)
  | cons x xs => exact (refTake_yes R cl x h hB (by simp at hx; omega)).mono (fun e w' ⟨v', h1, h2, h3⟩ => ⟨v', h1, h2, h3⟩)
theorem sClose_any (h : Sw 62 w0 W p c cap (V xs) cl) : Calls Try.prog 10 #[.pointer (some ⟨p, 0, none⟩)] W fun e w' => e = .returned (.bool (!cl)) ∧ Sw 62 w0 w' p c cap (V xs) true ∧ Kept W w' (fun k => k = p ∨ k = c) := by
  cases cl with
  | true => exact (closeI_no h.sp).mono (fun e w' ⟨h1, h2⟩ => ⟨h1, by subst h2; exact h, by subst h2; exact Kept.refl _ _⟩)
  | false => exact swI_close h
theorem sDrain_any (most : Int) (h : Sw 62 w0 W p c cap (V xs) cl) : Calls Try.prog 25 #[.pointer (some ⟨p, 0, none⟩), .int .i64 most] W fun e w' => ∃ A cc n, e = .returned (.slice A n cc) ∧ (xs.take most.toNat).length = n ∧ n ≤ cc ∧ Kd.C (Kd.int .i64) w' A n (xs.take most.toNat) ∧ (∀ a, A = some a → W.heap.size ≤ a.block ∧ a.block < w'.heap.size) ∧ Sw 62 w0 w' p c cap (V (xs.drop most.toNat)) cl ∧ Kept W w' (fun k => k = p ∨ k = c) :=
  (drainI_calls xs cl most h).mono (fun e w' ⟨vo, h1, h2, h3, h4⟩ => by
    obtain ⟨A, cc, rfl⟩ := Kd.R_slice h2
    have h5 := Kd.R_reads' h2
    exact ⟨A, cc, _, h1, rfl, h5.2.1, h5.2.2, fun a ha => by subst ha; exact ⟨Kd.R_base h2 _ rfl, Kd.R_lt h2 _ rfl⟩, h3, h4.mono (fun k hk => Or.inr hk)⟩)
end
/-- Two spools and two of the document's, in memory. -/
structure LS (w W : World) (p c q d ga gb BB R O : Nat) (xs ys : List Int) (cl cm : Bool) (va : Value) (xa : List Int) (ca : Bool) (vb : Value) (ya : List Int) (cb : Bool) : Prop where
  s : Sw 62 w W p c R (V xs) cl
  t : Sw 62 w W q d O (V ys) cm
  a : W.heap[ga]? = some (.cells #[va, .int .i64 (R : Int), .bool ca] 43 (0, 0))
  b : W.heap[gb]? = some (.cells #[vb, .int .i64 (O : Int), .bool cb] 43 (0, 0))
  ra : RO W BB va xa
  rb : RO W BB vb ya
/-- How their blocks lie. -/
def CO (w : World) (p c q d ga gb BB : Nat) : Prop := w.heap.size ≤ p ∧ w.heap.size ≤ c ∧ p < q ∧ p < d ∧ c < q ∧ c < d ∧ q < ga ∧ d < ga ∧ ga < gb ∧ BB = gb + 1 ∧ p ≠ c ∧ q ≠ d
section
variable {w W W2 : World} {p c q d ga gb BB R O : Nat} {xs ys xa ya xs2 ys2 xa2 ya2 : List Int} {cl cm ca cb cl2 cm2 ca2 cb2 : Bool} {va vb va2 vb2 : Value} {S : Nat → Prop}
theorem LS.below (h : LS w W p c q d ga gb BB R O xs ys cl cm va xa ca vb ya cb) (hb : Below W.heap.size W W2) : LS w W2 p c q d ga gb BB R O xs ys cl cm va xa ca vb ya cb :=
  ⟨h.s.below hb, h.t.below hb, blk_below h.a hb, blk_below h.b hb, h.ra.below hb, h.rb.below hb⟩
theorem LS.opS (h : LS w W p c q d ga gb BB R O xs ys cl cm va xa ca vb ya cb) (hc : CO w p c q d ga gb BB) (hs : Sw 62 w W2 p c R (V xs2) cl2) (hk : Kept W W2 (fun k => k = p ∨ k = c)) : LS w W2 p c q d ga gb BB R O xs2 ys cl2 cm va xa ca vb ya cb := by
  unfold CO at hc
  exact ⟨hs, h.t.kept hk (by omega) (by omega) hs.bl, blk_kept h.a hk (by omega), blk_kept h.b hk (by omega), h.ra.kept hk (fun k hk => by omega), h.rb.kept hk (fun k hk => by omega)⟩
theorem LS.opT (h : LS w W p c q d ga gb BB R O xs ys cl cm va xa ca vb ya cb) (hc : CO w p c q d ga gb BB) (hs : Sw 62 w W2 q d O (V ys2) cm2) (hk : Kept W W2 (fun k => k = q ∨ k = d)) : LS w W2 p c q d ga gb BB R O xs ys2 cl cm2 va xa ca vb ya cb := by
  unfold CO at hc
  exact ⟨h.s.kept hk (by omega) (by omega) hs.bl, hs, blk_kept h.a hk (by omega), blk_kept h.b hk (by omega), h.ra.kept hk (fun k hk => by omega), h.rb.kept hk (fun k hk => by omega)⟩
theorem LS.opM (h : LS w W p c q d ga gb BB R O xs ys cl cm va xa ca vb ya cb) (hc : CO w p c q d ga gb BB) (hs : Sw 62 w W2 p c R (V xs2) cl2) (ht : Sw 62 w W2 q d O (V ys2) cm2) (hk : Kept W W2 S) (hS : ∀ k, S k → k = c ∨ k = d) : LS w W2 p c q d ga gb BB R O xs2 ys2 cl2 cm2 va xa ca vb ya cb := by
  unfold CO at hc
  exact ⟨hs, ht, blk_kept h.a hk (fun e => by have := hS _ e; omega), blk_kept h.b hk (fun e => by have := hS _ e; omega), h.ra.kept hk (fun k hk => by have := hS _ hk; omega), h.rb.kept hk (fun k hk => by have := hS _ hk; omega)⟩
theorem kept3 (W : World) (g : Nat) (a b c : Value) : Kept W (((W.setCell ⟨g, 0, none⟩ a).setCell ⟨g, 1, none⟩ b).setCell ⟨g, 2, none⟩ c) (fun k => k = g) :=
  (((Kept.refl W (fun k => k = g)).setCell (p := ⟨g, 0, none⟩) (Or.inl rfl) a).setCell (p := ⟨g, 1, none⟩) (Or.inl rfl) b).setCell (p := ⟨g, 2, none⟩) (Or.inl rfl) c
theorem LS.setA (h : LS w W p c q d ga gb BB R O xs ys cl cm va xa ca vb ya cb) (hc : CO w p c q d ga gb BB) (hv : RO W BB va2 xa2) : LS w (((W.setCell ⟨ga, 0, none⟩ va2).setCell ⟨ga, 1, none⟩ (.int .i64 (R : Int))).setCell ⟨ga, 2, none⟩ (.bool ca2)) p c q d ga gb BB R O xs ys cl cm va2 xa2 ca2 vb ya cb := by
  unfold CO at hc
  have hk := kept3 W ga va2 (.int .i64 (R : Int)) (.bool ca2)
  have hb := below3 (a' := va2) (b' := .int .i64 (R : Int)) (c' := .bool ca2) h.s.bl (show w.heap.size ≤ ga by omega)
  exact ⟨h.s.kept hk (by omega) (by omega) hb, h.t.kept hk (by omega) (by omega) hb, put3 h.a, far3 h.b (by omega) _ _ _, hv.kept hk (fun k hk => by omega), h.rb.kept hk (fun k hk => by omega)⟩
theorem LS.setB (h : LS w W p c q d ga gb BB R O xs ys cl cm va xa ca vb ya cb) (hc : CO w p c q d ga gb BB) (hv : RO W BB vb2 ya2) : LS w (((W.setCell ⟨gb, 0, none⟩ vb2).setCell ⟨gb, 1, none⟩ (.int .i64 (O : Int))).setCell ⟨gb, 2, none⟩ (.bool cb2)) p c q d ga gb BB R O xs ys cl cm va xa ca vb2 ya2 cb2 := by
  unfold CO at hc
  have hk := kept3 W gb vb2 (.int .i64 (O : Int)) (.bool cb2)
  have hb := below3 (a' := vb2) (b' := .int .i64 (O : Int)) (c' := .bool cb2) h.s.bl (show w.heap.size ≤ gb by omega)
  exact ⟨h.s.kept hk (by omega) (by omega) hb, h.t.kept hk (by omega) (by omega) hb, far3 h.a (by omega) _ _ _, put3 h.b, h.ra.kept hk (fun k hk => by omega), hv.kept hk (fun k hk => by omega)⟩
theorem LS.shut (h : LS w W p c q d ga gb BB R O xs ys cl cm va xa ca vb ya cb) (hc : CO w p c q d ga gb BB) : LS w (W.setCell ⟨ga, 2, none⟩ (.bool true)) p c q d ga gb BB R O xs ys cl cm va xa true vb ya cb := by
  unfold CO at hc
  have hk : Kept W (W.setCell ⟨ga, 2, none⟩ (.bool true)) (fun k => k = ga) := (Kept.refl W (fun k => k = ga)).setCell (p := ⟨ga, 2, none⟩) (Or.inl rfl) _
  have hb := h.s.bl.setCell (p := ⟨ga, 2, none⟩) (show w.heap.size ≤ ga by omega) (.bool true)
  exact ⟨h.s.kept hk (by omega) (by omega) hb, h.t.kept hk (by omega) (by omega) hb, blk_put h.a 2 _ rfl, blk_far h.b (by show gb ≠ ga; omega) _, h.ra.kept hk (fun k hk => by omega), h.rb.kept hk (fun k hk => by omega)⟩
theorem LS.bb (h : LS w W p c q d ga gb BB R O xs ys cl cm va xa ca vb ya cb) (hc : CO w p c q d ga gb BB) : BB ≤ W.heap.size := by
  have := blk_lt h.b
  unfold CO at hc
  omega
theorem LS.len (h : LS w W p c q d ga gb BB R O xs ys cl cm va xa ca vb ya cb) : xs.length ≤ R ∧ R ≤ 1024 ∧ ys.length ≤ O ∧ O ≤ 1024 ∧ BB ≤ BB := ⟨(len_V h.s).1, (len_V h.s).2, (len_V h.t).1, (len_V h.t).2, Nat.le_refl _⟩
end
theorem ro_slice {W : World} {B : Nat} {v : Value} {xs : List Int} (h : RO W B v xs) : ∃ A n cc, v = .slice A n cc ∧ xs.length = n ∧ n ≤ cc ∧ Kd.C (Kd.int .i64) W A n xs := by
  obtain ⟨A, cc, e, h1, h2, _⟩ := h
  exact ⟨A, _, cc, e, rfl, h1, h2⟩
theorem movV (xs ys : List Int) (O : Nat) (b : Bool) (most : Int) : movN (V xs).length (O - (V ys).length) b most = movN xs.length (O - ys.length) b most := by rw [V_len, V_len]

theorem V_app (a b : List Int) : V a ++ V b = V (a ++ b) := by simp [V]
theorem bools_self (b : Bool) : (b == b) = true := by cases b <;> rfl
set_option maxHeartbeats 16000000 in
set_option maxRecDepth 100000 in
theorem SpoolPlays_yes (R O : Nat) (hR : R ≤ 1024) (hO : O ≤ 1024) (A0 : Option Addr) (c0 : Nat) (l0 : List S45) (w : World) (hC : Kd.C k45 w A0 l0.length l0) (hm : l0.length ≤ maxLen) :
    Calls Try.prog 5 #[.int .i64 (R : Int), .int .i64 (O : Int), .slice A0 l0.length c0] w fun e w' => e = .returned (.bool true) ∧ Below w.heap.size w w' := by
  have HC := Aside0.mk hC
  have HM := Aside0.mk hm
  have HRM := Aside0.mk hR
  have HOM := Aside0.mk hO
  have HRT := Aside0.mk (And.intro (right_true R hR) (right_true O hO))
  clear hC hm hR hO
  go_enter Try.func5, Try.ntmps5
  go_upto_region 2 with (go_at_call 8; go_must (refine (swI_new (w0 := w) R HRM.out (Below.refl _ _)).mono ?_; rintro e w1 ⟨p, c, rfl, h1, -, -, -⟩; have HS0 := Aside0.mk h1; clear h1))
  go_upto_region 3 with (go_at_call 8; go_must (refine (swI_new (w0 := w) O HOM.out HS0.out.bl).mono ?_; rintro e w2 ⟨q, d, rfl, h2, hq, hd, hb2⟩; have HT := Aside0.mk h2; have HPQ : Aside0 (w.heap.size ≤ p ∧ w.heap.size ≤ c ∧ p < q ∧ p < d ∧ c < q ∧ c < d ∧ p ≠ c ∧ q ≠ d) := ⟨by have := HS0.out.sp.plt; have := HS0.out.sp.clt; have := HS0.out.pl; have := HS0.out.gl; have := HS0.out.sp.ne; have := h2.sp.ne; omega⟩; have HS := Aside0.mk (HS0.out.below hb2); clear h2 hq hd hb2 HS0))
  go_upto_region 7 with (first | (go_at_call 16; (with_reducible refine Calls.mono (changelingref03_Right.calls (R : Int) true _ HRT.out.1) ?_); rintro e w3 ⟨rfl, hd⟩; have HS3 := Aside0.mk (sw_drawn HS.out hd); have HT3 := Aside0.mk (sw_drawn HT.out hd); clear hd HS HT) | (go_at_call 16; (with_reducible refine Calls.mono (changelingref03_Right.calls (O : Int) true _ HRT.out.2) ?_); rintro e w4 ⟨rfl, hd⟩; have HS := Aside0.mk (sw_drawn HS3.out hd); have HT := Aside0.mk (sw_drawn HT3.out hd); clear hd HS3 HT3))
  clear HRT
  obtain ⟨hz1, hz3, hbB⟩ := two_new w4 #[.slice none 0 0, .int .i64 (R : Int), .bool false] #[.slice none 0 0, .int .i64 (O : Int), .bool false] 43 43
  go_upto_block 0 with (fail)
  have HBB : Aside0 (w4.heap.size + 1 + 1 = w4.heap.size + 1 + 1) := ⟨rfl⟩
  have HCO : Aside0 (CO w p c q d w4.heap.size (w4.heap.size + 1) (w4.heap.size + 1 + 1)) := ⟨by unfold CO; have := HPQ.out; have := HT.out.sp.plt; have := HT.out.sp.clt; omega⟩
  have HL0 : Aside0 (LS w w4 p c q d w4.heap.size (w4.heap.size + 1) (w4.heap.size + 1 + 1) R O [] [] false false (.slice none 0 0) [] false (.slice none 0 0) [] false ∨ True) := ⟨Or.inr trivial⟩
  have HL : Aside0 (LS w ((w4.alloc (.cells #[.slice none 0 0, .int .i64 (R : Int), .bool false] 43)).alloc (.cells #[.slice none 0 0, .int .i64 (O : Int), .bool false] 43)) p c q d w4.heap.size (w4.heap.size + 1) (w4.heap.size + 1 + 1) R O [] [] false false (.slice none 0 0) [] false (.slice none 0 0) [] false) :=
    ⟨⟨HS.out.below hbB, HT.out.below hbB, hz1, hz3, RO.nil _ _, RO.nil _ _⟩⟩
  clear hbB hz1 hz3 HL0 HBB HS HT HPQ
  generalize (w4.alloc (.cells #[.slice none 0 0, .int .i64 (R : Int), .bool false] 43)).alloc (.cells #[.slice none 0 0, .int .i64 (O : Int), .bool false] 43) = w9 at HL ⊢
  generalize w4.heap.size + 1 + 1 = BB at HL HCO ⊢
  generalize w4.heap.size + 1 = gb at HL HCO ⊢
  generalize w4.heap.size = ga at HL HCO ⊢
  go_cut [13] (fun v13 wc => ∃ (va vb : Value) (xs ys : List Int) (cl cm : Bool), Aside0 (LS w wc p c q d ga gb BB R O xs ys cl cm va xs cl vb ys cm))
  case first =>
    go_wp2
    go_loopg [13] l0.length (fun kq v13 w' => ∃ (m : Nat) (va vb : Value) (xs ys : List Int) (cl cm : Bool), v13 = .int .i64 (m : Int) ∧ Aside0 (m + kq = l0.length) ∧ Aside0 (LS w w' p c q d ga gb BB R O xs ys cl cm va xs cl vb ys cm))
    case atStart => exact ⟨0, _, _, [], [], false, false, rfl, ⟨by omega⟩, HL⟩
    case round =>
      clear HL
      obtain ⟨m, va, vb, xs, ys, cl, cm, rfl, HI, HL⟩ := hrel
      by_cases c1 : m < l0.length
      · have c1b : decide ((m : Int) < (l0.length : Int)) = true := decide_eq_true (by omega); have c1i : ((m : Int) < (l0.length : Int)) = True := eq_true (by omega); have c1n : (m < l0.length) = True := eq_true (by omega)
        by_cases c2 : m < 2000
        · have c2b : decide ((m : Int) < 2000) = true := decide_eq_true (by omega); have c2i : ((m : Int) < 2000) = True := eq_true (by omega); have c2n : (m < 2000) = True := eq_true (by omega)
          have HC1 := Aside0.mk c1
          have p0 : (0 ≤ (m : Int)) = True := eq_true (by omega)
          have hw1 : wrap64 ((m : Int) + 1) = (m : Int) + 1 := w64 (by omega) (by omega)
          obtain ⟨ad, ea, hx0, hx1⟩ := at_T45 (Kd.C_below HC.out HL.out.s.bl) (m : Int) (by omega) (by omega)
          subst ea
          simp only [Int.toNat_natCast] at hx0 hx1
          generalize rd_T45 l0 (m : Int) = f at hx0 hx1
          clear c1 c2
          go_upto_region 12 with (fail)
          clear hx0 hx1
          have HO : Aside0 ((wr.alloc (.cells #[.int .i64 f.f0, .int .i64 f.f1] 45)).heap[wr.heap.size]? = some (.cells #[.int .i64 f.f0, .int .i64 f.f1] 45 (0, 0))) := ⟨blk_new wr _⟩
          have HGO : Aside0 (BB ≤ wr.heap.size) := ⟨HL.out.bb HCO.out⟩
          replace HL := Aside0.mk (HL.out.below (below_alloc (Below.refl wr.heap.size wr) (.cells #[.int .i64 f.f0, .int .i64 f.f1] 45)))
          generalize wr.alloc (.cells #[.int .i64 f.f0, .int .i64 f.f1] 45) = w1 at HL HO ⊢
          generalize wr.heap.size = go at HO HGO ⊢
          have o0 : w1.cell? ⟨go, 0, none⟩ = some (.int .i64 f.f0) := (blk_cell HO.out 0).trans rfl
          have o1 : w1.cell? ⟨go, 1, none⟩ = some (.int .i64 f.f1) := (blk_cell HO.out 1).trans rfl
          go_upto_block 2 with (fail)
          clear o0 o1
          have HXL := Aside0.mk HL.out.len
          go_cut [15] (fun v15 wc => v15 = .bool true ∧ ∃ (va vb : Value) (xs ys : List Int) (cl cm : Bool), Aside0 (LS w wc p c q d ga gb BB R O xs ys cl cm va xs cl vb ys cm))
          case first =>
            by_cases k1 : f.f0 = 1
            · have n1 : (f.f0 == 1) = true := beq_iff_eq.mpr k1
              clear k1
              have a0 : w1.cell? ⟨ga, 0, none⟩ = some (va) := (blk_cell HL.out.a 0).trans rfl
              have a1 : w1.cell? ⟨ga, 1, none⟩ = some (.int .i64 (R : Int)) := (blk_cell HL.out.a 1).trans rfl
              have a2 : w1.cell? ⟨ga, 2, none⟩ = some (.bool cl) := (blk_cell HL.out.a 2).trans rfl
              have af0 : w1.frozen? ⟨ga, 0, none⟩ = false := blk_frozen HL.out.a 0
              have af1 : w1.frozen? ⟨ga, 1, none⟩ = false := blk_frozen HL.out.a 1
              have af2 : w1.frozen? ⟨ga, 2, none⟩ = false := blk_frozen HL.out.a 2
              have o0 : w1.cell? ⟨go, 0, none⟩ = some (.int .i64 f.f0) := (blk_cell HO.out 0).trans rfl
              have o1 : w1.cell? ⟨go, 1, none⟩ = some (.int .i64 f.f1) := (blk_cell HO.out 1).trans rfl
              go_upto_region 16 with (go_at_call 21; go_must (refine (rPut_any R f.f1 HL.out.ra (HL.out.bb HCO.out) HL.out.len.2.1 (!cl && decide (xs.length < R)) rfl).mono ?_); rintro e w4 ⟨v4, rfl, hv4, hb4⟩; obtain ⟨A4, n4, k4, rfl, -, -, -⟩ := ro_slice hv4; have HV4 := Aside0.mk hv4; have HB4 := Aside0.mk hb4; clear hv4 hb4)
              clear o0 o1 a0 a1 a2 af0 af1 af2
              have hb5 := below_alloc (Below.refl w4.heap.size w4) (.cells #[.slice A4 n4 k4, .int .i64 (R : Int), .bool cl] 43)
              have h5 := blk_new w4 (.cells #[.slice A4 n4 k4, .int .i64 (R : Int), .bool cl] 43)
              replace HL := Aside0.mk ((HL.out.below HB4.out).below hb5)
              replace HO := Aside0.mk (blk_below (blk_below HO.out HB4.out) hb5)
              replace HV4 := Aside0.mk (HV4.out.below hb5)
              have H5 := Aside0.mk h5
              clear hb5 h5 HB4
              generalize w4.alloc (.cells #[.slice A4 n4 k4, .int .i64 (R : Int), .bool cl] 43) = w5 at HL HO HV4 H5 ⊢
              generalize w4.heap.size = g5 at H5 ⊢
              have a0 : w5.cell? ⟨ga, 0, none⟩ = some (va) := (blk_cell HL.out.a 0).trans rfl
              have a1 : w5.cell? ⟨ga, 1, none⟩ = some (.int .i64 (R : Int)) := (blk_cell HL.out.a 1).trans rfl
              have a2 : w5.cell? ⟨ga, 2, none⟩ = some (.bool cl) := (blk_cell HL.out.a 2).trans rfl
              have af0 : w5.frozen? ⟨ga, 0, none⟩ = false := blk_frozen HL.out.a 0
              have af1 : w5.frozen? ⟨ga, 1, none⟩ = false := blk_frozen HL.out.a 1
              have af2 : w5.frozen? ⟨ga, 2, none⟩ = false := blk_frozen HL.out.a 2
              have g0 : w5.cell? ⟨g5, 0, none⟩ = some (.slice A4 n4 k4) := (blk_cell H5.out 0).trans rfl
              have g1 : w5.cell? ⟨g5, 1, none⟩ = some (.int .i64 (R : Int)) := (blk_cell H5.out 1).trans rfl
              have g2 : w5.cell? ⟨g5, 2, none⟩ = some (.bool cl) := (blk_cell H5.out 2).trans rfl
              go_upto_region 17 with (fail)
              clear g0 g1 g2 a0 a1 a2 af0 af1 af2 H5
              replace HO := Aside0.mk (far3 (g' := ga) HO.out (by have := HGO.out; have := HCO.out; unfold CO at this; omega) (.slice A4 n4 k4) (.int .i64 (R : Int)) (.bool cl))
              replace HL := Aside0.mk (HL.out.setA (ca2 := cl) HCO.out HV4.out)
              clear HV4
              generalize ((w5.setCell ⟨ga, 0, none⟩ (.slice A4 n4 k4)).setCell ⟨ga, 1, none⟩ (.int .i64 (R : Int))).setCell ⟨ga, 2, none⟩ (.bool cl) = w6 at HL HO ⊢
              have o0 : w6.cell? ⟨go, 0, none⟩ = some (.int .i64 f.f0) := (blk_cell HO.out 0).trans rfl
              have o1 : w6.cell? ⟨go, 1, none⟩ = some (.int .i64 f.f1) := (blk_cell HO.out 1).trans rfl
              generalize hbb : (!cl && decide (xs.length < R)) = bb at HL ⊢
              have HBB := Aside0.mk hbb
              clear hbb
              go_wp2_with (go_at_call 9; go_must (refine (sPut_any f.f1 HL.out.s bb HBB.out.symm).mono ?_; rintro e w7 ⟨rfl, h7, k7⟩; have HL7 := Aside0.mk (HL.out.opS HCO.out h7 k7); clear h7 k7))
              go_meet
              case rel => exact ⟨rfl, _, vb, _, ys, cl, cm, HL7⟩
            by_cases k2 : f.f0 = 2
            · have n1 : (f.f0 == 1) = false := beq_eq_false_iff_ne.mpr (by omega)
              have n2 : (f.f0 == 2) = true := beq_iff_eq.mpr k2
              clear k1 k2
              have a0 : w1.cell? ⟨ga, 0, none⟩ = some (va) := (blk_cell HL.out.a 0).trans rfl
              have a1 : w1.cell? ⟨ga, 1, none⟩ = some (.int .i64 (R : Int)) := (blk_cell HL.out.a 1).trans rfl
              have a2 : w1.cell? ⟨ga, 2, none⟩ = some (.bool cl) := (blk_cell HL.out.a 2).trans rfl
              have af0 : w1.frozen? ⟨ga, 0, none⟩ = false := blk_frozen HL.out.a 0
              have af1 : w1.frozen? ⟨ga, 1, none⟩ = false := blk_frozen HL.out.a 1
              have af2 : w1.frozen? ⟨ga, 2, none⟩ = false := blk_frozen HL.out.a 2
              have o0 : w1.cell? ⟨go, 0, none⟩ = some (.int .i64 f.f0) := (blk_cell HO.out 0).trans rfl
              have o1 : w1.cell? ⟨go, 1, none⟩ = some (.int .i64 f.f1) := (blk_cell HO.out 1).trans rfl
              go_upto_region 20 with (go_at_call 22; go_must (refine (rTake_any R HL.out.ra (HL.out.bb HCO.out) (by have := HL.out.len; omega)).mono ?_); rintro e w4 ⟨v4, rfl, hv4, hb4⟩; obtain ⟨A4, n4, k4, rfl, -, -, -⟩ := ro_slice hv4; have HV4 := Aside0.mk hv4; have HB4 := Aside0.mk hb4; clear hv4 hb4)
              clear o0 o1 a0 a1 a2 af0 af1 af2
              have hb5 := below_alloc (Below.refl w4.heap.size w4) (.cells #[.slice A4 n4 k4, .int .i64 (R : Int), .bool cl] 43)
              have h5 := blk_new w4 (.cells #[.slice A4 n4 k4, .int .i64 (R : Int), .bool cl] 43)
              replace HL := Aside0.mk ((HL.out.below HB4.out).below hb5)
              replace HO := Aside0.mk (blk_below (blk_below HO.out HB4.out) hb5)
              replace HV4 := Aside0.mk (HV4.out.below hb5)
              have H5 := Aside0.mk h5
              clear hb5 h5 HB4
              generalize w4.alloc (.cells #[.slice A4 n4 k4, .int .i64 (R : Int), .bool cl] 43) = w5 at HL HO HV4 H5 ⊢
              generalize w4.heap.size = g5 at H5 ⊢
              have a0 : w5.cell? ⟨ga, 0, none⟩ = some (va) := (blk_cell HL.out.a 0).trans rfl
              have a1 : w5.cell? ⟨ga, 1, none⟩ = some (.int .i64 (R : Int)) := (blk_cell HL.out.a 1).trans rfl
              have a2 : w5.cell? ⟨ga, 2, none⟩ = some (.bool cl) := (blk_cell HL.out.a 2).trans rfl
              have af0 : w5.frozen? ⟨ga, 0, none⟩ = false := blk_frozen HL.out.a 0
              have af1 : w5.frozen? ⟨ga, 1, none⟩ = false := blk_frozen HL.out.a 1
              have af2 : w5.frozen? ⟨ga, 2, none⟩ = false := blk_frozen HL.out.a 2
              have g0 : w5.cell? ⟨g5, 0, none⟩ = some (.slice A4 n4 k4) := (blk_cell H5.out 0).trans rfl
              have g1 : w5.cell? ⟨g5, 1, none⟩ = some (.int .i64 (R : Int)) := (blk_cell H5.out 1).trans rfl
              have g2 : w5.cell? ⟨g5, 2, none⟩ = some (.bool cl) := (blk_cell H5.out 2).trans rfl
              go_upto_region 21 with (fail)
              clear g0 g1 g2 a0 a1 a2 af0 af1 af2 H5
              replace HO := Aside0.mk (far3 (g' := ga) HO.out (by have := HGO.out; have := HCO.out; unfold CO at this; omega) (.slice A4 n4 k4) (.int .i64 (R : Int)) (.bool cl))
              replace HL := Aside0.mk (HL.out.setA (ca2 := cl) HCO.out HV4.out)
              clear HV4
              generalize ((w5.setCell ⟨ga, 0, none⟩ (.slice A4 n4 k4)).setCell ⟨ga, 1, none⟩ (.int .i64 (R : Int))).setCell ⟨ga, 2, none⟩ (.bool cl) = w6 at HL HO ⊢
              go_wp2_with (go_at_call 13; go_must (refine (sTake_any HL.out.s).mono ?_; rintro e w7 ⟨rfl, h7, k7⟩; have HL7 := Aside0.mk (HL.out.opS HCO.out h7 k7); clear h7 k7))
              go_meet
              case rel => exact ⟨rfl, _, vb, _, ys, cl, cm, HL7⟩
            by_cases k3 : f.f0 = 3
            · have n1 : (f.f0 == 1) = false := beq_eq_false_iff_ne.mpr (by omega)
              have n2 : (f.f0 == 2) = false := beq_eq_false_iff_ne.mpr (by omega)
              have n3 : (f.f0 == 3) = true := beq_iff_eq.mpr k3
              clear k1 k2 k3
              have a0 : w1.cell? ⟨ga, 0, none⟩ = some (va) := (blk_cell HL.out.a 0).trans rfl
              have a1 : w1.cell? ⟨ga, 1, none⟩ = some (.int .i64 (R : Int)) := (blk_cell HL.out.a 1).trans rfl
              have a2 : w1.cell? ⟨ga, 2, none⟩ = some (.bool cl) := (blk_cell HL.out.a 2).trans rfl
              have af0 : w1.frozen? ⟨ga, 0, none⟩ = false := blk_frozen HL.out.a 0
              have af1 : w1.frozen? ⟨ga, 1, none⟩ = false := blk_frozen HL.out.a 1
              have af2 : w1.frozen? ⟨ga, 2, none⟩ = false := blk_frozen HL.out.a 2
              have o0 : w1.cell? ⟨go, 0, none⟩ = some (.int .i64 f.f0) := (blk_cell HO.out 0).trans rfl
              have o1 : w1.cell? ⟨go, 1, none⟩ = some (.int .i64 f.f1) := (blk_cell HO.out 1).trans rfl
              go_upto_region 25 with (go_at_call 23; go_must (refine (refDrain_calls R cl f.f1 HL.out.ra (by have := HL.out.len; omega)).mono ?_); rintro e w4 ⟨v4, vo, rfl, hv4, hvo, hb4⟩; have HVO := Aside0.mk hvo; obtain ⟨A8, n8, k8, rfl, -, -, -⟩ := ro_slice hvo; clear hvo; obtain ⟨A4, n4, k4, rfl, -, -, -⟩ := ro_slice hv4; have HV4 := Aside0.mk hv4; have HB4 := Aside0.mk hb4; clear hv4 hb4)
              clear o0 o1 a0 a1 a2 af0 af1 af2
              have hb5 := below_alloc (Below.refl w4.heap.size w4) (.cells #[.slice A4 n4 k4, .int .i64 (R : Int), .bool cl] 43)
              have h5 := blk_new w4 (.cells #[.slice A4 n4 k4, .int .i64 (R : Int), .bool cl] 43)
              replace HL := Aside0.mk ((HL.out.below HB4.out).below hb5)
              replace HO := Aside0.mk (blk_below (blk_below HO.out HB4.out) hb5)
              replace HV4 := Aside0.mk (HV4.out.below hb5)
              replace HVO := Aside0.mk (HVO.out.below hb5)
              have H5 := Aside0.mk h5
              clear hb5 h5 HB4
              generalize w4.alloc (.cells #[.slice A4 n4 k4, .int .i64 (R : Int), .bool cl] 43) = w5 at HL HO HV4 H5 HVO ⊢
              generalize w4.heap.size = g5 at H5 ⊢
              have a0 : w5.cell? ⟨ga, 0, none⟩ = some (va) := (blk_cell HL.out.a 0).trans rfl
              have a1 : w5.cell? ⟨ga, 1, none⟩ = some (.int .i64 (R : Int)) := (blk_cell HL.out.a 1).trans rfl
              have a2 : w5.cell? ⟨ga, 2, none⟩ = some (.bool cl) := (blk_cell HL.out.a 2).trans rfl
              have af0 : w5.frozen? ⟨ga, 0, none⟩ = false := blk_frozen HL.out.a 0
              have af1 : w5.frozen? ⟨ga, 1, none⟩ = false := blk_frozen HL.out.a 1
              have af2 : w5.frozen? ⟨ga, 2, none⟩ = false := blk_frozen HL.out.a 2
              have g0 : w5.cell? ⟨g5, 0, none⟩ = some (.slice A4 n4 k4) := (blk_cell H5.out 0).trans rfl
              have g1 : w5.cell? ⟨g5, 1, none⟩ = some (.int .i64 (R : Int)) := (blk_cell H5.out 1).trans rfl
              have g2 : w5.cell? ⟨g5, 2, none⟩ = some (.bool cl) := (blk_cell H5.out 2).trans rfl
              go_upto_region 26 with (fail)
              clear g0 g1 g2 a0 a1 a2 af0 af1 af2 H5
              replace HO := Aside0.mk (far3 (g' := ga) HO.out (by have := HGO.out; have := HCO.out; unfold CO at this; omega) (.slice A4 n4 k4) (.int .i64 (R : Int)) (.bool cl))
              replace HL := Aside0.mk (HL.out.setA (ca2 := cl) HCO.out HV4.out)
              clear HV4
              replace HVO := Aside0.mk (HVO.out.kept (kept3 w5 ga (.slice A4 n4 k4) (.int .i64 (R : Int)) (.bool cl)) (fun k hk => by have := HCO.out; unfold CO at this; omega))
              generalize ((w5.setCell ⟨ga, 0, none⟩ (.slice A4 n4 k4)).setCell ⟨ga, 1, none⟩ (.int .i64 (R : Int))).setCell ⟨ga, 2, none⟩ (.bool cl) = w6 at HL HO HVO ⊢
              obtain ⟨A8', n8', k8', e8, hn8, hk8, hC8⟩ := ro_slice HVO.out
              obtain ⟨rfl, rfl, rfl⟩ : A8 = A8' ∧ n8 = n8' ∧ k8 = k8' := by injection e8 with h1 h2 h3; exact ⟨h1, h2, h3⟩
              have HN8 := Aside0.mk (And.intro hn8 hk8)
              clear e8 hn8 hk8 hC8
              have o0 : w6.cell? ⟨go, 0, none⟩ = some (.int .i64 f.f0) := (blk_cell HO.out 0).trans rfl
              have o1 : w6.cell? ⟨go, 1, none⟩ = some (.int .i64 f.f1) := (blk_cell HO.out 1).trans rfl
              go_wp2_with (first | (go_at_call 25; (with_reducible refine Calls.mono (sDrain_any f.f1 HL.out.s) ?_); rintro e w7 ⟨A9, k9, n9, rfl, hn9, hk9, hC9, -, h7, k7⟩; have HL7 := Aside0.mk (HL.out.opS HCO.out h7 k7); have HVO7 := Aside0.mk (HVO.out.kept k7 (fun k hk => by have := HCO.out; unfold CO at this; omega)); have HC9 := Aside0.mk (And.intro hn9 (And.intro hk9 hC9)); obtain rfl : n8 = n9 := (by rw [← HN8.out.1, ← hn9]); clear h7 k7 hn9 hk9 hC9 o0 o1 HL HVO) | (go_at_call 24; obtain ⟨A8', n8', k8', e8, hn8, hk8, hC8⟩ := ro_slice HVO7.out; obtain ⟨rfl, rfl, rfl⟩ : A8 = A8' ∧ n8 = n8' ∧ k8 = k8' := (by injection e8 with h1 h2 h3; exact ⟨h1, h2, h3⟩); (with_reducible refine Calls.mono (sameInts_calls (xs.take f.f1.toNat) hn8 (by have := HL7.out.len; have := HXL.out; rw [← hn8, List.length_take]; unfold maxLen; omega) HC9.out.2.2 HC9.out.2.1 hC8 hk8) ?_); rintro e w8 ⟨rfl, h8⟩; have HL8 := Aside0.mk (HL7.out.below h8.below); clear h8 HL7 HVO7 e8 hn8 hk8 hC8))
              go_meet
              case rel => exact ⟨rfl, _, vb, _, ys, cl, cm, HL8⟩
            by_cases k4 : f.f0 = 4
            · have n1 : (f.f0 == 1) = false := beq_eq_false_iff_ne.mpr (by omega)
              have n2 : (f.f0 == 2) = false := beq_eq_false_iff_ne.mpr (by omega)
              have n3 : (f.f0 == 3) = false := beq_eq_false_iff_ne.mpr (by omega)
              have n4 : (f.f0 == 4) = true := beq_iff_eq.mpr k4
              clear k1 k2 k3 k4
              have hbd : Below w1.heap.size w1 w1.drew := below_drew (Below.refl _ _)
              replace HL := Aside0.mk (HL.out.below hbd)
              have a2 : w1.cell? ⟨ga, 2, none⟩ = some (.bool cl) := ((blk_cell HL.out.a 2).trans rfl : w1.drew.cell? ⟨ga, 2, none⟩ = some (.bool cl))
              clear hbd
              go_upto_region 28 with (fail)
              refine start_ (n := 7) (S := fun w' => w'.cell? ⟨ga, 2, none⟩ = some (.bool cl)) (ds := []) #[false, false, false, false, false, false, false] (by kernel_rfl) rfl rfl (a2) (fun hHeld => ?_)
              generalize w1.drew = w2 at HL hHeld ⊢
              refine pure_ (i := 0) (N := some 176) (v := ?_) (a' := ?_) #[true, false, false, false, false, false, false] rfl rfl (by kernel_rfl) (fun _ _ _ h => h) (Or.inl ⟨by rfl, ?_⟩) ?_ ?_
              rotate_left
              · intro w'
                go_simp
                with_reducible rfl
              rotate_left
              · simp only [Act.put, List.setIfInBounds_toArray, List.set_cons_zero, List.set_cons_succ, i64_w, i32_w]
                rfl
              refine pure_ (i := 2) (N := some 178) (v := ?_) (a' := ?_) #[true, false, true, false, false, false, false] rfl rfl (by kernel_rfl) (fun _ _ _ h => h) (Or.inl ⟨by rfl, ?_⟩) ?_ ?_
              rotate_left
              · intro w'
                go_simp
                with_reducible rfl
              rotate_left
              · simp only [Act.put, List.setIfInBounds_toArray, List.set_cons_zero, List.set_cons_succ, i64_w, i32_w]
                rfl
              refine take_ (i := 3) (N := some 179) (v := ?_) (a' := ?_) #[true, false, true, true, false, false, false] rfl rfl (by kernel_rfl) (fun _ _ _ h => h) (Or.inl ⟨by rfl, ?_⟩) hHeld ?_ ?_
              rotate_left
              · intro w' s0
                go_simp
                with_reducible rfl
              rotate_left
              · simp only [Act.put, List.setIfInBounds_toArray, List.set_cons_zero, List.set_cons_succ, i64_w, i32_w]
                rfl
              refine pure_ (i := 4) (N := some 180) (v := ?_) (a' := ?_) #[true, false, true, true, true, false, false] rfl rfl (by kernel_rfl) (fun _ _ _ h => h) (Or.inl ⟨by rfl, ?_⟩) ?_ ?_
              rotate_left
              · intro w'
                go_simp
                with_reducible rfl
              rotate_left
              · simp only [Act.put, List.setIfInBounds_toArray, List.set_cons_zero, List.set_cons_succ, i64_w, i32_w]
                rfl
              refine one_ (i := 1) (N := some 177) #[true, true, true, true, true, false, false] rfl rfl (by kernel_rfl) (by decide) (fun K hK => ?_)
              refine goes_ Try.func10 (by kernel_rfl) rfl #[.pointer (some ⟨p, 0, none⟩)] (by rfl) rfl rfl (by simp only [List.map_toArray, List.map_cons, List.map_nil]; rfl) ?_
              with_reducible refine (sClose_any HL.out.s).mono ?_
              rintro e w3 ⟨rfl, h3, k3⟩
              refine ⟨_, rfl, ?_⟩
              have HL3 := Aside0.mk (HL.out.opS HCO.out h3 k3)
              clear h3 k3
              refine hK.out _ _ (((blk_cell HL3.out.a 2).trans rfl)) (fun hHeld => ?_)
              clear hK K
              refine norm_ (a' := ?_) ?_ ?_
              rotate_left
              · show Act.put _ (some 177) _ = _
                simp only [Act.put, List.setIfInBounds_toArray, List.set_cons_zero, List.set_cons_succ, i64_w, i32_w]
                rfl
              refine pure_ (i := 5) (N := some 181) (v := ?_) (a' := ?_) #[true, true, true, true, true, true, false] rfl rfl (by kernel_rfl) (fun _ _ _ h => h) (Or.inl ⟨by rfl, ?_⟩) ?_ ?_
              rotate_left
              · intro w'
                go_simp
                with_reducible rfl
              rotate_left
              · simp only [Act.put, List.setIfInBounds_toArray, List.set_cons_zero, List.set_cons_succ, i64_w, i32_w]
                rfl
              refine pure_ (i := 6) (N := some 15) (v := ?_) (a' := ?_) #[true, true, true, true, true, true, true] rfl rfl (by kernel_rfl) (fun _ _ _ h => h) (Or.inl ⟨by rfl, ?_⟩) ?_ ?_
              rotate_left
              · intro w'
                go_simp
                with_reducible rfl
              rotate_left
              · simp only [Act.put, List.setIfInBounds_toArray, List.set_cons_zero, List.set_cons_succ, i64_w, i32_w]
                rfl
              refine done_ (by kernel_rfl) ?_
              clear hHeld
              have a2' : w3.cell? ⟨ga, 2, none⟩ = some (.bool cl) := (blk_cell HL3.out.a 2).trans rfl
              have af2 : w3.frozen? ⟨ga, 2, none⟩ = false := blk_frozen HL3.out.a 2
              have hbs := bools_self (!cl)
              go_wp2
              have HL4 := Aside0.mk (HL3.out.shut HCO.out)
              go_meet
              case rel => exact ⟨by first | rfl | simp, va, vb, xs, ys, true, cm, HL4⟩
            by_cases k5 : f.f0 = 5
            · have n1 : (f.f0 == 1) = false := beq_eq_false_iff_ne.mpr (by omega)
              have n2 : (f.f0 == 2) = false := beq_eq_false_iff_ne.mpr (by omega)
              have n3 : (f.f0 == 3) = false := beq_eq_false_iff_ne.mpr (by omega)
              have n4 : (f.f0 == 4) = false := beq_eq_false_iff_ne.mpr (by omega)
              have n5 : (f.f0 == 5) = true := beq_iff_eq.mpr k5
              clear k1 k2 k3 k4 k5
              have a0 : w1.cell? ⟨ga, 0, none⟩ = some (va) := (blk_cell HL.out.a 0).trans rfl
              have a1 : w1.cell? ⟨ga, 1, none⟩ = some (.int .i64 (R : Int)) := (blk_cell HL.out.a 1).trans rfl
              have a2 : w1.cell? ⟨ga, 2, none⟩ = some (.bool cl) := (blk_cell HL.out.a 2).trans rfl
              have af0 : w1.frozen? ⟨ga, 0, none⟩ = false := blk_frozen HL.out.a 0
              have af1 : w1.frozen? ⟨ga, 1, none⟩ = false := blk_frozen HL.out.a 1
              have af2 : w1.frozen? ⟨ga, 2, none⟩ = false := blk_frozen HL.out.a 2
              have b0 : w1.cell? ⟨gb, 0, none⟩ = some (vb) := (blk_cell HL.out.b 0).trans rfl
              have b1 : w1.cell? ⟨gb, 1, none⟩ = some (.int .i64 (O : Int)) := (blk_cell HL.out.b 1).trans rfl
              have b2 : w1.cell? ⟨gb, 2, none⟩ = some (.bool cm) := (blk_cell HL.out.b 2).trans rfl
              have bf0 : w1.frozen? ⟨gb, 0, none⟩ = false := blk_frozen HL.out.b 0
              have bf1 : w1.frozen? ⟨gb, 1, none⟩ = false := blk_frozen HL.out.b 1
              have bf2 : w1.frozen? ⟨gb, 2, none⟩ = false := blk_frozen HL.out.b 2
              have o0 : w1.cell? ⟨go, 0, none⟩ = some (.int .i64 f.f0) := (blk_cell HO.out 0).trans rfl
              have o1 : w1.cell? ⟨go, 1, none⟩ = some (.int .i64 f.f1) := (blk_cell HO.out 1).trans rfl
              obtain ⟨N, hN⟩ : ∃ N, movN xs.length (O - ys.length) cm f.f1 = N := ⟨_, rfl⟩
              have HN := Aside0.mk hN
              clear hN
              go_upto_region 32 with (go_at_call 26; go_must (refine (refMove_calls R O cl cm va vb xs ys f.f1 HL.out.ra HL.out.rb (HL.out.bb HCO.out) (by have := HL.out.len; omega) (by have := HL.out.len; omega) (by have := HL.out.len; omega)).mono ?_); rintro e w4 ⟨v4, v5, rfl, hv4, hv5, hb4⟩; rw [HN.out] at hv4 hv5 ⊢; obtain ⟨A4, n4, k4, rfl, -, -, -⟩ := ro_slice hv4; obtain ⟨A5, n5, k5, rfl, -, -, -⟩ := ro_slice hv5; have HV4 := Aside0.mk hv4; have HV5 := Aside0.mk hv5; have HB4 := Aside0.mk hb4; clear hv4 hv5 hb4)
              clear o0 o1 a0 a1 a2 af0 af1 af2 b0 b1 b2 bf0 bf1 bf2
              obtain ⟨h5, h6, hb5⟩ := two_new w4 #[.slice A4 n4 k4, .int .i64 (R : Int), .bool cl] #[.slice A5 n5 k5, .int .i64 (O : Int), .bool cm] 43 43
              have hne : w4.heap.size ≠ w4.heap.size + 1 := by omega
              have hg5 : gb < w4.heap.size ∧ ga < w4.heap.size := ⟨Nat.lt_of_lt_of_le (blk_lt HL.out.b) HB4.out.size, Nat.lt_of_lt_of_le (blk_lt HL.out.a) HB4.out.size⟩
              replace HL := Aside0.mk ((HL.out.below HB4.out).below hb5)
              replace HO := Aside0.mk (blk_below (blk_below HO.out HB4.out) hb5)
              replace HV4 := Aside0.mk (HV4.out.below hb5)
              replace HV5 := Aside0.mk (HV5.out.below hb5)
              have H5 := Aside0.mk h5
              have H6 := Aside0.mk h6
              have HG5 : Aside0 (gb < w4.heap.size ∧ ga < w4.heap.size ∧ gb < w4.heap.size + 1 ∧ ga < w4.heap.size + 1) := ⟨by omega⟩
              clear hb5 h5 h6 HB4 hne hg5
              generalize ((w4.alloc (.cells #[.slice A4 n4 k4, .int .i64 (R : Int), .bool cl] 43)).alloc (.cells #[.slice A5 n5 k5, .int .i64 (O : Int), .bool cm] 43)) = w5 at HL HO HV4 HV5 H5 H6 ⊢
              generalize w4.heap.size + 1 = g6 at H6 HG5 ⊢
              generalize w4.heap.size = g5 at H5 HG5 ⊢
              have a0 : w5.cell? ⟨ga, 0, none⟩ = some (va) := (blk_cell HL.out.a 0).trans rfl
              have a1 : w5.cell? ⟨ga, 1, none⟩ = some (.int .i64 (R : Int)) := (blk_cell HL.out.a 1).trans rfl
              have a2 : w5.cell? ⟨ga, 2, none⟩ = some (.bool cl) := (blk_cell HL.out.a 2).trans rfl
              have af0 : w5.frozen? ⟨ga, 0, none⟩ = false := blk_frozen HL.out.a 0
              have af1 : w5.frozen? ⟨ga, 1, none⟩ = false := blk_frozen HL.out.a 1
              have af2 : w5.frozen? ⟨ga, 2, none⟩ = false := blk_frozen HL.out.a 2
              have b0 : w5.cell? ⟨gb, 0, none⟩ = some (vb) := (blk_cell HL.out.b 0).trans rfl
              have b1 : w5.cell? ⟨gb, 1, none⟩ = some (.int .i64 (O : Int)) := (blk_cell HL.out.b 1).trans rfl
              have b2 : w5.cell? ⟨gb, 2, none⟩ = some (.bool cm) := (blk_cell HL.out.b 2).trans rfl
              have bf0 : w5.frozen? ⟨gb, 0, none⟩ = false := blk_frozen HL.out.b 0
              have bf1 : w5.frozen? ⟨gb, 1, none⟩ = false := blk_frozen HL.out.b 1
              have bf2 : w5.frozen? ⟨gb, 2, none⟩ = false := blk_frozen HL.out.b 2
              have g0 : w5.cell? ⟨g5, 0, none⟩ = some (.slice A4 n4 k4) := (blk_cell H5.out 0).trans rfl
              have g1 : w5.cell? ⟨g5, 1, none⟩ = some (.int .i64 (R : Int)) := (blk_cell H5.out 1).trans rfl
              have g2 : w5.cell? ⟨g5, 2, none⟩ = some (.bool cl) := (blk_cell H5.out 2).trans rfl
              go_upto_region 33 with (fail)
              clear g0 g1 g2 a0 a1 a2 af0 af1 af2 b0 b1 b2 bf0 bf1 bf2 H5
              replace HO := Aside0.mk (far3 (g' := ga) HO.out (by have := HGO.out; have := HCO.out; unfold CO at this; omega) (.slice A4 n4 k4) (.int .i64 (R : Int)) (.bool cl))
              replace H6 := Aside0.mk (far3 (g' := ga) H6.out (by have := HG5.out; omega) (.slice A4 n4 k4) (.int .i64 (R : Int)) (.bool cl))
              replace HV5 := Aside0.mk (HV5.out.kept (kept3 w5 ga (.slice A4 n4 k4) (.int .i64 (R : Int)) (.bool cl)) (fun k hk => by have := HCO.out; unfold CO at this; omega))
              replace HL := Aside0.mk (HL.out.setA (ca2 := cl) HCO.out HV4.out)
              clear HV4
              generalize ((w5.setCell ⟨ga, 0, none⟩ (.slice A4 n4 k4)).setCell ⟨ga, 1, none⟩ (.int .i64 (R : Int))).setCell ⟨ga, 2, none⟩ (.bool cl) = w6 at HL HO HV5 H6 ⊢
              have b0 : w6.cell? ⟨gb, 0, none⟩ = some (vb) := (blk_cell HL.out.b 0).trans rfl
              have b1 : w6.cell? ⟨gb, 1, none⟩ = some (.int .i64 (O : Int)) := (blk_cell HL.out.b 1).trans rfl
              have b2 : w6.cell? ⟨gb, 2, none⟩ = some (.bool cm) := (blk_cell HL.out.b 2).trans rfl
              have bf0 : w6.frozen? ⟨gb, 0, none⟩ = false := blk_frozen HL.out.b 0
              have bf1 : w6.frozen? ⟨gb, 1, none⟩ = false := blk_frozen HL.out.b 1
              have bf2 : w6.frozen? ⟨gb, 2, none⟩ = false := blk_frozen HL.out.b 2
              have g0 : w6.cell? ⟨g6, 0, none⟩ = some (.slice A5 n5 k5) := (blk_cell H6.out 0).trans rfl
              have g1 : w6.cell? ⟨g6, 1, none⟩ = some (.int .i64 (O : Int)) := (blk_cell H6.out 1).trans rfl
              have g2 : w6.cell? ⟨g6, 2, none⟩ = some (.bool cm) := (blk_cell H6.out 2).trans rfl
              go_upto_region 34 with (fail)
              clear g0 g1 g2 b0 b1 b2 bf0 bf1 bf2 H6
              replace HO := Aside0.mk (far3 (g' := gb) HO.out (by have := HGO.out; have := HCO.out; unfold CO at this; omega) (.slice A5 n5 k5) (.int .i64 (O : Int)) (.bool cm))
              replace HL := Aside0.mk (HL.out.setB (cb2 := cm) HCO.out HV5.out)
              clear HV5
              generalize ((w6.setCell ⟨gb, 0, none⟩ (.slice A5 n5 k5)).setCell ⟨gb, 1, none⟩ (.int .i64 (O : Int))).setCell ⟨gb, 2, none⟩ (.bool cm) = w8 at HL HO ⊢
              have o0 : w8.cell? ⟨go, 0, none⟩ = some (.int .i64 f.f0) := (blk_cell HO.out 0).trans rfl
              have o1 : w8.cell? ⟨go, 1, none⟩ = some (.int .i64 f.f1) := (blk_cell HO.out 1).trans rfl
              go_wp2_with (go_at_call 27; go_must (refine (moveI_calls (V xs) (V ys) cl cm f.f1 HL.out.s HL.out.t (by have := HCO.out; unfold CO at this; omega) (by have := HCO.out; unfold CO at this; omega)).mono ?_; rintro e w7 ⟨rfl, h7, h8, k7⟩; rw [movV, HN.out] at h7 h8 ⊢; rw [V_map_drop] at h7; rw [V_map_take, V_app] at h8; have HL7 := Aside0.mk (HL.out.opM HCO.out h7 h8 k7 (fun k hk => hk)); clear h7 h8 k7))
              go_meet
              case rel => exact ⟨by first | rfl | simp, _, _, (xs.drop N), (ys ++ xs.take N), cl, cm, HL7⟩
            by_cases k6 : f.f0 = 6
            · have n1 : (f.f0 == 1) = false := beq_eq_false_iff_ne.mpr (by omega)
              have n2 : (f.f0 == 2) = false := beq_eq_false_iff_ne.mpr (by omega)
              have n3 : (f.f0 == 3) = false := beq_eq_false_iff_ne.mpr (by omega)
              have n4 : (f.f0 == 4) = false := beq_eq_false_iff_ne.mpr (by omega)
              have n5 : (f.f0 == 5) = false := beq_eq_false_iff_ne.mpr (by omega)
              have n6 : (f.f0 == 6) = true := beq_iff_eq.mpr k6
              clear k1 k2 k3 k4 k5 k6
              have a0 : w1.cell? ⟨ga, 0, none⟩ = some (va) := (blk_cell HL.out.a 0).trans rfl
              have a1 : w1.cell? ⟨ga, 1, none⟩ = some (.int .i64 (R : Int)) := (blk_cell HL.out.a 1).trans rfl
              have a2 : w1.cell? ⟨ga, 2, none⟩ = some (.bool cl) := (blk_cell HL.out.a 2).trans rfl
              have af0 : w1.frozen? ⟨ga, 0, none⟩ = false := blk_frozen HL.out.a 0
              have af1 : w1.frozen? ⟨ga, 1, none⟩ = false := blk_frozen HL.out.a 1
              have af2 : w1.frozen? ⟨ga, 2, none⟩ = false := blk_frozen HL.out.a 2
              have b0 : w1.cell? ⟨gb, 0, none⟩ = some (vb) := (blk_cell HL.out.b 0).trans rfl
              have b1 : w1.cell? ⟨gb, 1, none⟩ = some (.int .i64 (O : Int)) := (blk_cell HL.out.b 1).trans rfl
              have b2 : w1.cell? ⟨gb, 2, none⟩ = some (.bool cm) := (blk_cell HL.out.b 2).trans rfl
              have bf0 : w1.frozen? ⟨gb, 0, none⟩ = false := blk_frozen HL.out.b 0
              have bf1 : w1.frozen? ⟨gb, 1, none⟩ = false := blk_frozen HL.out.b 1
              have bf2 : w1.frozen? ⟨gb, 2, none⟩ = false := blk_frozen HL.out.b 2
              have o0 : w1.cell? ⟨go, 0, none⟩ = some (.int .i64 f.f0) := (blk_cell HO.out 0).trans rfl
              have o1 : w1.cell? ⟨go, 1, none⟩ = some (.int .i64 f.f1) := (blk_cell HO.out 1).trans rfl
              obtain ⟨N, hN⟩ : ∃ N, movN ys.length (R - xs.length) cl f.f1 = N := ⟨_, rfl⟩
              have HN := Aside0.mk hN
              clear hN
              go_upto_region 37 with (go_at_call 26; go_must (refine (refMove_calls O R cm cl vb va ys xs f.f1 HL.out.rb HL.out.ra (HL.out.bb HCO.out) (by have := HL.out.len; omega) (by have := HL.out.len; omega) (by have := HL.out.len; omega)).mono ?_); rintro e w4 ⟨v4, v5, rfl, hv4, hv5, hb4⟩; rw [HN.out] at hv4 hv5 ⊢; obtain ⟨A4, n4, k4, rfl, -, -, -⟩ := ro_slice hv4; obtain ⟨A5, n5, k5, rfl, -, -, -⟩ := ro_slice hv5; have HV4 := Aside0.mk hv4; have HV5 := Aside0.mk hv5; have HB4 := Aside0.mk hb4; clear hv4 hv5 hb4)
              clear o0 o1 a0 a1 a2 af0 af1 af2 b0 b1 b2 bf0 bf1 bf2
              obtain ⟨h5, h6, hb5⟩ := two_new w4 #[.slice A4 n4 k4, .int .i64 (O : Int), .bool cm] #[.slice A5 n5 k5, .int .i64 (R : Int), .bool cl] 43 43
              have hne : w4.heap.size ≠ w4.heap.size + 1 := by omega
              have hg5 : gb < w4.heap.size ∧ ga < w4.heap.size := ⟨Nat.lt_of_lt_of_le (blk_lt HL.out.b) HB4.out.size, Nat.lt_of_lt_of_le (blk_lt HL.out.a) HB4.out.size⟩
              replace HL := Aside0.mk ((HL.out.below HB4.out).below hb5)
              replace HO := Aside0.mk (blk_below (blk_below HO.out HB4.out) hb5)
              replace HV4 := Aside0.mk (HV4.out.below hb5)
              replace HV5 := Aside0.mk (HV5.out.below hb5)
              have H5 := Aside0.mk h5
              have H6 := Aside0.mk h6
              have HG5 : Aside0 (gb < w4.heap.size ∧ ga < w4.heap.size ∧ gb < w4.heap.size + 1 ∧ ga < w4.heap.size + 1) := ⟨by omega⟩
              clear hb5 h5 h6 HB4 hne hg5
              generalize ((w4.alloc (.cells #[.slice A4 n4 k4, .int .i64 (O : Int), .bool cm] 43)).alloc (.cells #[.slice A5 n5 k5, .int .i64 (R : Int), .bool cl] 43)) = w5 at HL HO HV4 HV5 H5 H6 ⊢
              generalize w4.heap.size + 1 = g6 at H6 HG5 ⊢
              generalize w4.heap.size = g5 at H5 HG5 ⊢
              have a0 : w5.cell? ⟨ga, 0, none⟩ = some (va) := (blk_cell HL.out.a 0).trans rfl
              have a1 : w5.cell? ⟨ga, 1, none⟩ = some (.int .i64 (R : Int)) := (blk_cell HL.out.a 1).trans rfl
              have a2 : w5.cell? ⟨ga, 2, none⟩ = some (.bool cl) := (blk_cell HL.out.a 2).trans rfl
              have af0 : w5.frozen? ⟨ga, 0, none⟩ = false := blk_frozen HL.out.a 0
              have af1 : w5.frozen? ⟨ga, 1, none⟩ = false := blk_frozen HL.out.a 1
              have af2 : w5.frozen? ⟨ga, 2, none⟩ = false := blk_frozen HL.out.a 2
              have b0 : w5.cell? ⟨gb, 0, none⟩ = some (vb) := (blk_cell HL.out.b 0).trans rfl
              have b1 : w5.cell? ⟨gb, 1, none⟩ = some (.int .i64 (O : Int)) := (blk_cell HL.out.b 1).trans rfl
              have b2 : w5.cell? ⟨gb, 2, none⟩ = some (.bool cm) := (blk_cell HL.out.b 2).trans rfl
              have bf0 : w5.frozen? ⟨gb, 0, none⟩ = false := blk_frozen HL.out.b 0
              have bf1 : w5.frozen? ⟨gb, 1, none⟩ = false := blk_frozen HL.out.b 1
              have bf2 : w5.frozen? ⟨gb, 2, none⟩ = false := blk_frozen HL.out.b 2
              have g0 : w5.cell? ⟨g5, 0, none⟩ = some (.slice A4 n4 k4) := (blk_cell H5.out 0).trans rfl
              have g1 : w5.cell? ⟨g5, 1, none⟩ = some (.int .i64 (O : Int)) := (blk_cell H5.out 1).trans rfl
              have g2 : w5.cell? ⟨g5, 2, none⟩ = some (.bool cm) := (blk_cell H5.out 2).trans rfl
              go_upto_region 38 with (fail)
              clear g0 g1 g2 a0 a1 a2 af0 af1 af2 b0 b1 b2 bf0 bf1 bf2 H5
              replace HO := Aside0.mk (far3 (g' := gb) HO.out (by have := HGO.out; have := HCO.out; unfold CO at this; omega) (.slice A4 n4 k4) (.int .i64 (O : Int)) (.bool cm))
              replace H6 := Aside0.mk (far3 (g' := gb) H6.out (by have := HG5.out; omega) (.slice A4 n4 k4) (.int .i64 (O : Int)) (.bool cm))
              replace HV5 := Aside0.mk (HV5.out.kept (kept3 w5 gb (.slice A4 n4 k4) (.int .i64 (O : Int)) (.bool cm)) (fun k hk => by have := HCO.out; unfold CO at this; omega))
              replace HL := Aside0.mk (HL.out.setB (cb2 := cm) HCO.out HV4.out)
              clear HV4
              generalize ((w5.setCell ⟨gb, 0, none⟩ (.slice A4 n4 k4)).setCell ⟨gb, 1, none⟩ (.int .i64 (O : Int))).setCell ⟨gb, 2, none⟩ (.bool cm) = w6 at HL HO HV5 H6 ⊢
              have a0 : w6.cell? ⟨ga, 0, none⟩ = some (va) := (blk_cell HL.out.a 0).trans rfl
              have a1 : w6.cell? ⟨ga, 1, none⟩ = some (.int .i64 (R : Int)) := (blk_cell HL.out.a 1).trans rfl
              have a2 : w6.cell? ⟨ga, 2, none⟩ = some (.bool cl) := (blk_cell HL.out.a 2).trans rfl
              have af0 : w6.frozen? ⟨ga, 0, none⟩ = false := blk_frozen HL.out.a 0
              have af1 : w6.frozen? ⟨ga, 1, none⟩ = false := blk_frozen HL.out.a 1
              have af2 : w6.frozen? ⟨ga, 2, none⟩ = false := blk_frozen HL.out.a 2
              have g0 : w6.cell? ⟨g6, 0, none⟩ = some (.slice A5 n5 k5) := (blk_cell H6.out 0).trans rfl
              have g1 : w6.cell? ⟨g6, 1, none⟩ = some (.int .i64 (R : Int)) := (blk_cell H6.out 1).trans rfl
              have g2 : w6.cell? ⟨g6, 2, none⟩ = some (.bool cl) := (blk_cell H6.out 2).trans rfl
              go_upto_region 39 with (fail)
              clear g0 g1 g2 a0 a1 a2 af0 af1 af2 H6
              replace HO := Aside0.mk (far3 (g' := ga) HO.out (by have := HGO.out; have := HCO.out; unfold CO at this; omega) (.slice A5 n5 k5) (.int .i64 (R : Int)) (.bool cl))
              replace HL := Aside0.mk (HL.out.setA (ca2 := cl) HCO.out HV5.out)
              clear HV5
              generalize ((w6.setCell ⟨ga, 0, none⟩ (.slice A5 n5 k5)).setCell ⟨ga, 1, none⟩ (.int .i64 (R : Int))).setCell ⟨ga, 2, none⟩ (.bool cl) = w8 at HL HO ⊢
              have o0 : w8.cell? ⟨go, 0, none⟩ = some (.int .i64 f.f0) := (blk_cell HO.out 0).trans rfl
              have o1 : w8.cell? ⟨go, 1, none⟩ = some (.int .i64 f.f1) := (blk_cell HO.out 1).trans rfl
              go_wp2_with (go_at_call 27; go_must (refine (moveI_calls (V ys) (V xs) cm cl f.f1 HL.out.t HL.out.s (by have := HCO.out; unfold CO at this; omega) (by have := HCO.out; unfold CO at this; omega)).mono ?_; rintro e w7 ⟨rfl, h7, h8, k7⟩; rw [movV, HN.out] at h7 h8 ⊢; rw [V_map_drop] at h7; rw [V_map_take, V_app] at h8; have HL7 := Aside0.mk (HL.out.opM HCO.out h8 h7 k7 (fun k hk => hk.symm)); clear h7 h8 k7))
              go_meet
              case rel => exact ⟨by first | rfl | simp, _, _, (xs ++ ys.take N), (ys.drop N), cl, cm, HL7⟩
            have n1 : (f.f0 == 1) = false := beq_eq_false_iff_ne.mpr (by omega)
            have n2 : (f.f0 == 2) = false := beq_eq_false_iff_ne.mpr (by omega)
            have n3 : (f.f0 == 3) = false := beq_eq_false_iff_ne.mpr (by omega)
            have n4 : (f.f0 == 4) = false := beq_eq_false_iff_ne.mpr (by omega)
            have n5 : (f.f0 == 5) = false := beq_eq_false_iff_ne.mpr (by omega)
            have n6 : (f.f0 == 6) = false := beq_eq_false_iff_ne.mpr (by omega)
            clear k1 k2 k3 k4 k5 k6
            go_wp2
            go_meet
            case rel => exact ⟨rfl, va, vb, xs, ys, cl, cm, HL⟩
          case rest =>
          clear HL HO HXL
          obtain ⟨rfl, va, vb, xs, ys, cl, cm, HL⟩ := hcut
          have a0 : wc.cell? ⟨ga, 0, none⟩ = some (va) := (blk_cell HL.out.a 0).trans rfl
          have a1 : wc.cell? ⟨ga, 1, none⟩ = some (.int .i64 (R : Int)) := (blk_cell HL.out.a 1).trans rfl
          have a2 : wc.cell? ⟨ga, 2, none⟩ = some (.bool cl) := (blk_cell HL.out.a 2).trans rfl
          have af0 : wc.frozen? ⟨ga, 0, none⟩ = false := blk_frozen HL.out.a 0
          have af1 : wc.frozen? ⟨ga, 1, none⟩ = false := blk_frozen HL.out.a 1
          have af2 : wc.frozen? ⟨ga, 2, none⟩ = false := blk_frozen HL.out.a 2
          have b0 : wc.cell? ⟨gb, 0, none⟩ = some (vb) := (blk_cell HL.out.b 0).trans rfl
          have b1 : wc.cell? ⟨gb, 1, none⟩ = some (.int .i64 (O : Int)) := (blk_cell HL.out.b 1).trans rfl
          have b2 : wc.cell? ⟨gb, 2, none⟩ = some (.bool cm) := (blk_cell HL.out.b 2).trans rfl
          have bf0 : wc.frozen? ⟨gb, 0, none⟩ = false := blk_frozen HL.out.b 0
          have bf1 : wc.frozen? ⟨gb, 1, none⟩ = false := blk_frozen HL.out.b 1
          have bf2 : wc.frozen? ⟨gb, 2, none⟩ = false := blk_frozen HL.out.b 2
          go_wp2_with (first | (go_at_call 28; (with_reducible refine Calls.mono (same_calls R xs cl va HL.out.s HL.out.ra) ?_); rintro e w7 ⟨rfl, h7⟩; have HL7 := Aside0.mk (HL.out.below h7); clear h7 HL; have a0 : w7.cell? ⟨ga, 0, none⟩ = some (va) := (blk_cell HL7.out.a 0).trans rfl; have a1 : w7.cell? ⟨ga, 1, none⟩ = some (.int .i64 (R : Int)) := (blk_cell HL7.out.a 1).trans rfl; have a2 : w7.cell? ⟨ga, 2, none⟩ = some (.bool cl) := (blk_cell HL7.out.a 2).trans rfl; have af0 : w7.frozen? ⟨ga, 0, none⟩ = false := blk_frozen HL7.out.a 0; have af1 : w7.frozen? ⟨ga, 1, none⟩ = false := blk_frozen HL7.out.a 1; have af2 : w7.frozen? ⟨ga, 2, none⟩ = false := blk_frozen HL7.out.a 2; have b0 : w7.cell? ⟨gb, 0, none⟩ = some (vb) := (blk_cell HL7.out.b 0).trans rfl; have b1 : w7.cell? ⟨gb, 1, none⟩ = some (.int .i64 (O : Int)) := (blk_cell HL7.out.b 1).trans rfl; have b2 : w7.cell? ⟨gb, 2, none⟩ = some (.bool cm) := (blk_cell HL7.out.b 2).trans rfl; have bf0 : w7.frozen? ⟨gb, 0, none⟩ = false := blk_frozen HL7.out.b 0; have bf1 : w7.frozen? ⟨gb, 1, none⟩ = false := blk_frozen HL7.out.b 1; have bf2 : w7.frozen? ⟨gb, 2, none⟩ = false := blk_frozen HL7.out.b 2) | (go_at_call 28; (with_reducible refine Calls.mono (same_calls O ys cm vb HL7.out.t HL7.out.rb) ?_); rintro e w8 ⟨rfl, h8⟩; have HL8 := Aside0.mk (HL7.out.below h8); clear h8 HL7))
          cases gk with
          | zero => have := HI.out; have := HC1.out; omega
          | succ kq =>
            go_roundg kq
            case measure => omega
            case rel => exact ⟨m + 1, va, vb, xs, ys, cl, cm, by push_cast; rw [hw1], ⟨by have := HI.out; omega⟩, HL8⟩
        · have c2b : decide ((m : Int) < 2000) = false := decide_eq_false (by omega); have c2i : ((m : Int) < 2000) = False := eq_false (by omega); have c2n : (m < 2000) = False := eq_false (by omega)
          clear c1 c2
          go_wp2
          go_meet
          case rel => exact ⟨va, vb, xs, ys, cl, cm, HL⟩
      · have c1b : decide ((m : Int) < (l0.length : Int)) = false := decide_eq_false (by omega); have c1i : ((m : Int) < (l0.length : Int)) = False := eq_false (by omega); have c1n : (m < l0.length) = False := eq_false (by omega)
        clear c1
        go_wp2
        go_meet
        case rel => exact ⟨va, vb, xs, ys, cl, cm, HL⟩
  case rest =>
  clear HL
  obtain ⟨va, vb, xs, ys, cl, cm, HL⟩ := hcut
  obtain ⟨A1, n1, k1, rfl, -, -, -⟩ := ro_slice HL.out.ra
  obtain ⟨A2, n2, k2, rfl, -, -, -⟩ := ro_slice HL.out.rb
  have HTX : Aside0 (xs.take ((R : Int)).toNat = xs ∧ ys.take ((O : Int)).toNat = ys) := ⟨⟨List.take_of_length_le (by have := HL.out.len; omega), List.take_of_length_le (by have := HL.out.len; omega)⟩⟩
  have HMX : Aside0 (xs.length ≤ maxLen ∧ ys.length ≤ maxLen) := ⟨by have := HL.out.len; unfold maxLen; omega⟩
  have hbd : Below wc.heap.size wc wc.drew := below_drew (Below.refl _ _)
  have HL0 := Aside0.mk (HL.out.below hbd)
  have a0 : wc.cell? ⟨ga, 0, none⟩ = some (.slice A1 n1 k1) := (blk_cell HL.out.a 0).trans rfl
  have b0 : wc.cell? ⟨gb, 0, none⟩ = some (.slice A2 n2 k2) := (blk_cell HL.out.b 0).trans rfl
  clear hbd HL
  go_upto_region 42 with (fail)
  refine start_ (n := 18) (S := fun w' => w'.cell? ⟨ga, 0, none⟩ = some (.slice A1 n1 k1) ∧ w'.cell? ⟨gb, 0, none⟩ = some (.slice A2 n2 k2)) (ds := []) #[false, false, false, false, false, false, false, false, false, false, false, false, false, false, false, false, false, false] (by kernel_rfl) rfl rfl ⟨a0, b0⟩ (fun hHeld => ?_); refine with_tabW tab_f5.tab42 tab_f5.bits42 (fun HT_ HW_ => ?_)
  generalize wc.drew = w2 at HL0 hHeld ⊢
  refine pure_ (i := 0) (N := some 237) (v := ?_) (a' := ?_) #[true, false, false, false, false, false, false, false, false, false, false, false, false, false, false, false, false, false] rfl rfl (any_of HT_.out (by kernel_rfl)) (fun _ _ _ h => h) (Or.inl ⟨by rfl, ?_⟩) ?_ ?_
  rotate_left
  · intro w'
    go_simp
    with_reducible rfl
  rotate_left
  · simp only [Act.put, List.setIfInBounds_toArray, List.set_cons_zero, List.set_cons_succ, i64_w, i32_w]
    rfl
  refine pure_ (i := 1) (N := some 238) (v := ?_) (a' := ?_) #[true, true, false, false, false, false, false, false, false, false, false, false, false, false, false, false, false, false] rfl rfl (any_of HT_.out (by kernel_rfl)) (fun _ _ _ h => h) (Or.inl ⟨by rfl, ?_⟩) ?_ ?_
  rotate_left
  · intro w'
    go_simp
    with_reducible rfl
  rotate_left
  · simp only [Act.put, List.setIfInBounds_toArray, List.set_cons_zero, List.set_cons_succ, i64_w, i32_w]
    rfl
  refine pure_ (i := 3) (N := some 240) (v := ?_) (a' := ?_) #[true, true, false, true, false, false, false, false, false, false, false, false, false, false, false, false, false, false] rfl rfl (any_of HT_.out (by kernel_rfl)) (fun _ _ _ h => h) (Or.inl ⟨by rfl, ?_⟩) ?_ ?_
  rotate_left
  · intro w'
    go_simp
    with_reducible rfl
  rotate_left
  · simp only [Act.put, List.setIfInBounds_toArray, List.set_cons_zero, List.set_cons_succ, i64_w, i32_w]
    rfl
  refine take_ (i := 4) (N := some 241) (v := ?_) (a' := ?_) #[true, true, false, true, true, false, false, false, false, false, false, false, false, false, false, false, false, false] rfl rfl (take_ofW HT_.out HW_.out (by kernel_rfl)) (fun _ _ _ h => h) (Or.inl ⟨by rfl, ?_⟩) hHeld ?_ ?_
  rotate_left
  · rintro w' ⟨s0, s1⟩
    go_simp
    with_reducible rfl
  rotate_left
  · simp only [Act.put, List.setIfInBounds_toArray, List.set_cons_zero, List.set_cons_succ, i64_w, i32_w]
    rfl
  refine one_ (i := 2) (N := some 239) #[true, true, true, true, true, false, false, false, false, false, false, false, false, false, false, false, false, false] rfl rfl (one_of HT_.out (by kernel_rfl)) (by decide) (fun K hK => ?_)
  refine goes_ Try.func25 (by kernel_rfl) rfl #[.pointer (some ⟨p, 0, none⟩), .int .i64 (R : Int)] (by rfl) rfl rfl (by simp only [List.map_toArray, List.map_cons, List.map_nil]; rfl) ?_
  with_reducible refine (sDrain_any (R : Int) HL0.out.s).mono ?_
  rintro e w3 ⟨A3, k3, n3, rfl, hn3, hk3, hC3, -, h3, q3⟩
  refine ⟨_, rfl, ?_⟩
  have HL3 := Aside0.mk (HL0.out.opS HCO.out h3 q3)
  rw [HTX.out.1] at hn3 hC3
  obtain ⟨A1', n1', k1', e1, hn1, hk1, hC1⟩ := ro_slice HL3.out.ra
  obtain ⟨rfl, rfl, rfl⟩ : A1 = A1' ∧ n1 = n1' ∧ k1 = k1' := (by injection e1 with h1 h2 h3; exact ⟨h1, h2, h3⟩)
  obtain rfl : n1 = n3 := (by rw [← hn1, ← hn3])
  have HS3 := Aside0.mk (sameInts_calls xs hn1 (by rw [← hn1]; exact HMX.out.1) hC3 hk3 hC1 hk1)
  clear hn3 hk3 hC3 h3 q3 e1 hn1 hk1 hC1 HL0
  refine hK.out _ _ ⟨((blk_cell HL3.out.a 0).trans rfl), ((blk_cell HL3.out.b 0).trans rfl)⟩ (fun hHeld => ?_)
  clear hK K
  refine norm_ (a' := ?_) ?_ ?_
  rotate_left
  · show Act.put _ (some 239) _ = _
    simp only [Act.put, List.setIfInBounds_toArray, List.set_cons_zero, List.set_cons_succ, i64_w, i32_w]
    rfl
  refine one_ (i := 5) (N := some 242) #[true, true, true, true, true, true, false, false, false, false, false, false, false, false, false, false, false, false] rfl rfl (one_of HT_.out (by kernel_rfl)) (by decide) (fun K hK => ?_)
  refine goes_ Try.func24 (by kernel_rfl) rfl #[.slice A3 n1 k3, .slice A1 n1 k1] (by rfl) rfl rfl (by simp only [List.map_toArray, List.map_cons, List.map_nil]; rfl) ?_
  with_reducible refine (HS3.out).mono ?_
  rintro e w4 ⟨rfl, h4⟩
  refine ⟨_, rfl, ?_⟩
  have HL4 := Aside0.mk (HL3.out.below h4.below)
  clear h4 HL3 HS3
  refine hK.out _ _ ⟨((blk_cell HL4.out.a 0).trans rfl), ((blk_cell HL4.out.b 0).trans rfl)⟩ (fun hHeld => ?_)
  clear hK K
  refine norm_ (a' := ?_) ?_ ?_
  rotate_left
  · show Act.put _ (some 242) _ = _
    simp only [Act.put, List.setIfInBounds_toArray, List.set_cons_zero, List.set_cons_succ, i64_w, i32_w]
    rfl
  refine pure_ (i := 6) (N := some 243) (v := ?_) (a' := ?_) #[true, true, true, true, true, true, true, false, false, false, false, false, false, false, false, false, false, false] rfl rfl (any_of HT_.out (by kernel_rfl)) (fun _ _ _ h => h) (Or.inl ⟨by rfl, ?_⟩) ?_ ?_
  rotate_left
  · intro w'
    go_simp
    with_reducible rfl
  rotate_left
  · simp only [Act.put, List.setIfInBounds_toArray, List.set_cons_zero, List.set_cons_succ, i64_w, i32_w]
    rfl
  refine pure_ (i := 7) (N := some 244) (v := ?_) (a' := ?_) #[true, true, true, true, true, true, true, true, false, false, false, false, false, false, false, false, false, false] rfl rfl (any_of HT_.out (by kernel_rfl)) (fun _ _ _ h => h) (Or.inl ⟨by rfl, ?_⟩) ?_ ?_
  rotate_left
  · intro w'
    go_simp
    with_reducible rfl
  rotate_left
  · simp only [Act.put, List.setIfInBounds_toArray, List.set_cons_zero, List.set_cons_succ, i64_w, i32_w]
    rfl
  refine pure_ (i := 8) (N := some 245) (v := ?_) (a' := ?_) #[true, true, true, true, true, true, true, true, true, false, false, false, false, false, false, false, false, false] rfl rfl (any_of HT_.out (by kernel_rfl)) (fun _ _ _ h => h) (Or.inl ⟨by rfl, ?_⟩) ?_ ?_
  rotate_left
  · intro w'
    go_simp
    with_reducible rfl
  rotate_left
  · simp only [Act.put, List.setIfInBounds_toArray, List.set_cons_zero, List.set_cons_succ, i64_w, i32_w]
    rfl
  refine pure_ (i := 10) (N := some 247) (v := ?_) (a' := ?_) #[true, true, true, true, true, true, true, true, true, false, true, false, false, false, false, false, false, false] rfl rfl (any_of HT_.out (by kernel_rfl)) (fun _ _ _ h => h) (Or.inl ⟨by rfl, ?_⟩) ?_ ?_
  rotate_left
  · intro w'
    go_simp
    with_reducible rfl
  rotate_left
  · simp only [Act.put, List.setIfInBounds_toArray, List.set_cons_zero, List.set_cons_succ, i64_w, i32_w]
    rfl
  refine take_ (i := 11) (N := some 248) (v := ?_) (a' := ?_) #[true, true, true, true, true, true, true, true, true, false, true, true, false, false, false, false, false, false] rfl rfl (take_ofW HT_.out HW_.out (by kernel_rfl)) (fun _ _ _ h => h) (Or.inl ⟨by rfl, ?_⟩) hHeld ?_ ?_
  rotate_left
  · rintro w' ⟨s0, s1⟩
    go_simp
    with_reducible rfl
  rotate_left
  · simp only [Act.put, List.setIfInBounds_toArray, List.set_cons_zero, List.set_cons_succ, i64_w, i32_w]
    rfl
  refine one_ (i := 9) (N := some 246) #[true, true, true, true, true, true, true, true, true, true, true, true, false, false, false, false, false, false] rfl rfl (one_of HT_.out (by kernel_rfl)) (by decide) (fun K hK => ?_)
  refine goes_ Try.func25 (by kernel_rfl) rfl #[.pointer (some ⟨q, 0, none⟩), .int .i64 (O : Int)] (by rfl) rfl rfl (by simp only [List.map_toArray, List.map_cons, List.map_nil]; rfl) ?_
  with_reducible refine (sDrain_any (O : Int) HL4.out.t).mono ?_
  rintro e w5 ⟨A5, k5, n5, rfl, hn5, hk5, hC5, -, h5, q5⟩
  refine ⟨_, rfl, ?_⟩
  have HL5 := Aside0.mk (HL4.out.opT HCO.out h5 q5)
  rw [HTX.out.2] at hn5 hC5
  obtain ⟨A2', n2', k2', e2, hn2, hk2, hC2⟩ := ro_slice HL5.out.rb
  obtain ⟨rfl, rfl, rfl⟩ : A2 = A2' ∧ n2 = n2' ∧ k2 = k2' := (by injection e2 with h1 h2 h3; exact ⟨h1, h2, h3⟩)
  obtain rfl : n2 = n5 := (by rw [← hn2, ← hn5])
  have HS5 := Aside0.mk (sameInts_calls ys hn2 (by rw [← hn2]; exact HMX.out.2) hC5 hk5 hC2 hk2)
  clear hn5 hk5 hC5 h5 q5 e2 hn2 hk2 hC2 HL4
  refine hK.out _ _ ⟨((blk_cell HL5.out.a 0).trans rfl), ((blk_cell HL5.out.b 0).trans rfl)⟩ (fun hHeld => ?_)
  clear hK K
  refine norm_ (a' := ?_) ?_ ?_
  rotate_left
  · show Act.put _ (some 246) _ = _
    simp only [Act.put, List.setIfInBounds_toArray, List.set_cons_zero, List.set_cons_succ, i64_w, i32_w]
    rfl
  refine one_ (i := 12) (N := some 249) #[true, true, true, true, true, true, true, true, true, true, true, true, true, false, false, false, false, false] rfl rfl (one_of HT_.out (by kernel_rfl)) (by decide) (fun K hK => ?_)
  refine goes_ Try.func24 (by kernel_rfl) rfl #[.slice A5 n2 k5, .slice A2 n2 k2] (by rfl) rfl rfl (by simp only [List.map_toArray, List.map_cons, List.map_nil]; rfl) ?_
  with_reducible refine (HS5.out).mono ?_
  rintro e w6 ⟨rfl, h6⟩
  refine ⟨_, rfl, ?_⟩
  have HL6 := Aside0.mk (HL5.out.below h6.below)
  clear h6 HL5 HS5
  refine hK.out _ _ ⟨((blk_cell HL6.out.a 0).trans rfl), ((blk_cell HL6.out.b 0).trans rfl)⟩ (fun hHeld => ?_)
  clear hK K
  refine norm_ (a' := ?_) ?_ ?_
  rotate_left
  · show Act.put _ (some 249) _ = _
    simp only [Act.put, List.setIfInBounds_toArray, List.set_cons_zero, List.set_cons_succ, i64_w, i32_w]
    rfl
  refine pure_ (i := 13) (N := some 250) (v := ?_) (a' := ?_) #[true, true, true, true, true, true, true, true, true, true, true, true, true, true, false, false, false, false] rfl rfl (any_of HT_.out (by kernel_rfl)) (fun _ _ _ h => h) (Or.inl ⟨by rfl, ?_⟩) ?_ ?_
  rotate_left
  · intro w'
    go_simp
    with_reducible rfl
  rotate_left
  · simp only [Act.put, List.setIfInBounds_toArray, List.set_cons_zero, List.set_cons_succ, i64_w, i32_w]
    rfl
  refine pure_ (i := 14) (N := some 251) (v := ?_) (a' := ?_) #[true, true, true, true, true, true, true, true, true, true, true, true, true, true, true, false, false, false] rfl rfl (any_of HT_.out (by kernel_rfl)) (fun _ _ _ h => h) (Or.inl ⟨by rfl, ?_⟩) ?_ ?_
  rotate_left
  · intro w'
    go_simp
    with_reducible rfl
  rotate_left
  · simp only [Act.put, List.setIfInBounds_toArray, List.set_cons_zero, List.set_cons_succ, i64_w, i32_w]
    rfl
  refine one_ (i := 15) (N := some 252) #[true, true, true, true, true, true, true, true, true, true, true, true, true, true, true, true, false, false] rfl rfl (one_of HT_.out (by kernel_rfl)) (by decide) (fun K hK => ?_)
  refine goes_ Try.func14 (by kernel_rfl) rfl #[] (by rfl) rfl rfl (by simp only [List.map_toArray, List.map_nil]) ?_
  with_reducible refine (known_calls w6).mono ?_
  rintro e w7 ⟨rfl, h7⟩
  refine ⟨_, rfl, ?_⟩
  have HL7 := Aside0.mk (HL6.out.below h7)
  clear h7 HL6
  refine hK.out _ _ ⟨((blk_cell HL7.out.a 0).trans rfl), ((blk_cell HL7.out.b 0).trans rfl)⟩ (fun hHeld => ?_)
  clear hK K
  refine norm_ (a' := ?_) ?_ ?_
  rotate_left
  · show Act.put _ (some 252) _ = _
    simp only [Act.put, List.setIfInBounds_toArray, List.set_cons_zero, List.set_cons_succ, i64_w, i32_w]
    rfl
  refine pure_ (i := 16) (N := some 253) (v := ?_) (a' := ?_) #[true, true, true, true, true, true, true, true, true, true, true, true, true, true, true, true, true, false] rfl rfl (any_of HT_.out (by kernel_rfl)) (fun _ _ _ h => h) (Or.inl ⟨by rfl, ?_⟩) ?_ ?_
  rotate_left
  · intro w'
    go_simp
    with_reducible rfl
  rotate_left
  · simp only [Act.put, List.setIfInBounds_toArray, List.set_cons_zero, List.set_cons_succ, i64_w, i32_w]
    rfl
  refine pure_ (i := 17) (N := some 6) (v := ?_) (a' := ?_) #[true, true, true, true, true, true, true, true, true, true, true, true, true, true, true, true, true, true] rfl rfl (any_of HT_.out (by kernel_rfl)) (fun _ _ _ h => h) (Or.inl ⟨by rfl, ?_⟩) ?_ ?_
  rotate_left
  · intro w'
    go_simp
    with_reducible rfl
  rotate_left
  · simp only [Act.put, List.setIfInBounds_toArray, List.set_cons_zero, List.set_cons_succ, i64_w, i32_w]
    rfl
  refine done_ (done_of HT_.out (by kernel_rfl)) ?_
  go_wp2
  go_ret
  exact ⟨rfl, HL7.out.s.bl⟩
set_option maxHeartbeats 8000000 in
set_option maxRecDepth 100000 in
theorem SpoolPlays_bb (a0 a1 : Int) (h0 : a0 < 0 ∨ 1024 < a0) (h1 : a1 < 0 ∨ 1024 < a1) (v2 : Value) (w : World) :
    Calls Try.prog 5 #[.int .i64 a0, .int .i64 a1, v2] w fun e w' => e = .returned (.bool true) ∧ Below w.heap.size w w' := by
  have HR0 := Aside0.mk (right_false a0 h0)
  have HR1 := Aside0.mk (right_false a1 h1)
  have H0 := Aside0.mk h0
  have H1 := Aside0.mk h1
  clear h0 h1
  have HB := Aside0.mk (Below.refl w.heap.size w)
  go_enter Try.func5, Try.ntmps5
  go_upto_region 2 with (go_at_call 8; go_must (refine (newI_no a0 H0.out).mono ?_; rintro e w1 ⟨rfl, rfl⟩))
  go_upto_region 3 with (go_at_call 8; go_must (refine (newI_no a1 H1.out).mono ?_; rintro e w1 ⟨rfl, rfl⟩))
  go_wp2_with (first | (go_at_call 16; (with_reducible refine Calls.mono (changelingref03_Right.calls (a0 : Int) false _ HR0.out) ?_); rintro e w3 ⟨rfl, hd⟩; have n0_ := Aside0.mk (below_then HB.out HB.out.size hd.below); clear hd HB; have HB := n0_; clear n0_) | (go_at_call 16; (with_reducible refine Calls.mono (changelingref03_Right.calls (a1 : Int) false _ HR1.out) ?_); rintro e w3 ⟨rfl, hd⟩; have n0_ := Aside0.mk (below_then HB.out HB.out.size hd.below); clear hd HB; have HB := n0_; clear n0_) | (go_at_call 14; refine (known_calls _).mono ?_; rintro e w5 ⟨rfl, h5⟩; have HE := Aside0.mk (below_then HB.out HB.out.size h5); clear h5 HB))
  go_ret
  exact ⟨rfl, HE.out⟩
set_option maxHeartbeats 8000000 in
set_option maxRecDepth 100000 in
theorem SpoolPlays_bo (a0 : Int) (O : Nat) (h0 : a0 < 0 ∨ 1024 < a0) (h1 : O ≤ 1024) (v2 : Value) (w : World) :
    Calls Try.prog 5 #[.int .i64 a0, .int .i64 (O : Int), v2] w fun e w' => e = .returned (.bool true) ∧ Below w.heap.size w w' := by
  have HR0 := Aside0.mk (right_false a0 h0)
  have HR1 := Aside0.mk (right_true O h1)
  have H0 := Aside0.mk h0
  have H1 := Aside0.mk h1
  clear h0 h1
  have HB := Aside0.mk (Below.refl w.heap.size w)
  go_enter Try.func5, Try.ntmps5
  go_upto_region 2 with (go_at_call 8; go_must (refine (newI_no a0 H0.out).mono ?_; rintro e w1 ⟨rfl, rfl⟩))
  go_upto_region 3 with (go_at_call 8; go_must (refine (newI_ok O H1.out).mono ?_; rintro e w1 ⟨p, c, rfl, -, -, -, h1⟩; have n0_ := Aside0.mk (below_then HB.out HB.out.size h1); clear h1 HB; have HB := n0_; clear n0_))
  go_wp2_with (first | (go_at_call 16; (with_reducible refine Calls.mono (changelingref03_Right.calls (a0 : Int) false _ HR0.out) ?_); rintro e w3 ⟨rfl, hd⟩; have n0_ := Aside0.mk (below_then HB.out HB.out.size hd.below); clear hd HB; have HB := n0_; clear n0_) | (go_at_call 16; (with_reducible refine Calls.mono (changelingref03_Right.calls ((O : Int) : Int) true _ HR1.out) ?_); rintro e w3 ⟨rfl, hd⟩; have n0_ := Aside0.mk (below_then HB.out HB.out.size hd.below); clear hd HB; have HB := n0_; clear n0_) | (go_at_call 14; refine (known_calls _).mono ?_; rintro e w5 ⟨rfl, h5⟩; have HE := Aside0.mk (below_then HB.out HB.out.size h5); clear h5 HB))
  go_ret
  exact ⟨rfl, HE.out⟩
set_option maxHeartbeats 8000000 in
set_option maxRecDepth 100000 in
theorem SpoolPlays_ob (R : Nat) (a1 : Int) (h0 : R ≤ 1024) (h1 : a1 < 0 ∨ 1024 < a1) (v2 : Value) (w : World) :
    Calls Try.prog 5 #[.int .i64 (R : Int), .int .i64 a1, v2] w fun e w' => e = .returned (.bool true) ∧ Below w.heap.size w w' := by
  have HR0 := Aside0.mk (right_true R h0)
  have HR1 := Aside0.mk (right_false a1 h1)
  have H0 := Aside0.mk h0
  have H1 := Aside0.mk h1
  clear h0 h1
  have HB := Aside0.mk (Below.refl w.heap.size w)
  go_enter Try.func5, Try.ntmps5
  go_upto_region 2 with (go_at_call 8; go_must (refine (newI_ok R H0.out).mono ?_; rintro e w1 ⟨p, c, rfl, -, -, -, h1⟩; have n0_ := Aside0.mk (below_then HB.out HB.out.size h1); clear h1 HB; have HB := n0_; clear n0_))
  go_upto_region 3 with (go_at_call 8; go_must (refine (newI_no a1 H1.out).mono ?_; rintro e w1 ⟨rfl, rfl⟩))
  go_wp2_with (first | (go_at_call 16; (with_reducible refine Calls.mono (changelingref03_Right.calls ((R : Int) : Int) true _ HR0.out) ?_); rintro e w3 ⟨rfl, hd⟩; have n0_ := Aside0.mk (below_then HB.out HB.out.size hd.below); clear hd HB; have HB := n0_; clear n0_) | (go_at_call 16; (with_reducible refine Calls.mono (changelingref03_Right.calls (a1 : Int) false _ HR1.out) ?_); rintro e w3 ⟨rfl, hd⟩; have n0_ := Aside0.mk (below_then HB.out HB.out.size hd.below); clear hd HB; have HB := n0_; clear n0_) | (go_at_call 14; refine (known_calls _).mono ?_; rintro e w5 ⟨rfl, h5⟩; have HE := Aside0.mk (below_then HB.out HB.out.size h5); clear h5 HB))
  go_ret
  exact ⟨rfl, HE.out⟩
theorem SpoolPlays_calls (a0 a1 : Int) (A0 : Option Addr) (c0 : Nat) (l0 : List S45) (w : World) (hC : Kd.C k45 w A0 l0.length l0) (hm : l0.length ≤ maxLen) :
    Calls Try.prog 5 #[.int .i64 a0, .int .i64 a1, .slice A0 l0.length c0] w fun e w' => e = .returned (.bool true) ∧ Below w.heap.size w w' := by
  by_cases h0 : a0 < 0 ∨ 1024 < a0
  · by_cases h1 : a1 < 0 ∨ 1024 < a1
    · exact SpoolPlays_bb a0 a1 h0 h1 _ w
    · obtain ⟨O, rfl⟩ : ∃ O : Nat, a1 = (O : Int) := ⟨a1.toNat, by omega⟩
      exact SpoolPlays_bo a0 O h0 (by omega) _ w
  · obtain ⟨R, rfl⟩ : ∃ R : Nat, a0 = (R : Int) := ⟨a0.toNat, by omega⟩
    by_cases h1 : a1 < 0 ∨ 1024 < a1
    · exact SpoolPlays_ob R a1 (by omega) h1 _ w
    · obtain ⟨O, rfl⟩ : ∃ O : Nat, a1 = (O : Int) := ⟨a1.toNat, by omega⟩
      exact SpoolPlays_yes R O (by omega) (by omega) A0 c0 l0 w hC hm
end Go.Proofs.Ytkohkcnajddcoaa.QN
