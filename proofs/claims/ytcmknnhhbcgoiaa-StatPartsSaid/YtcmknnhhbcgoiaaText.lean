/- stat.Text: what it gives of a table that may be. -/
import Derived.Test.YtcmknnhhbcgoiaaLine
import Derived.Outline
namespace Go.Proofs.Ytcmknnhhbcgoiaa.QN
open Go.RowKit Go.Proofs.YtcmknnhhbcgoiaaW.PrintWords Go.Proofs.YtcmknnhhbcgoiaaW.PrintLast Go.Proofs.YtcmknnhhbcgoiaaW.PrintMore
set_option linter.unusedVariables false
set_option linter.unusedSimpArgs false


theorem Text_no (A0 : Option Addr) (c0 : Nat) (l : List S42) (k : Nat) (w : World) (hC : Kd.C k42 w A0 l.length l) (hc : l.length ≤ c0) (h : stat_Right.f k l = some false) :
  Calls Try.prog 18 #[.slice A0 l.length c0] w fun e w' => e = .returned (.string ⟨#[]⟩) ∧ Below w.heap.size w w' := by
 go_enter Try.func18, Try.ntmps18
 go_wp2_with (go_at_call 15; go_must (refine (stat_Right.calls k A0 c0 l false w hC hc h).mono ?_; rintro e w2 ⟨rfl, h2⟩; have HB := Aside0.mk h2; clear h2))
 go_ret
 exact ⟨rfl, HB.out⟩
def lineU (t : Int → ByteArray) (nm : ByteArray) (r : S42) : List UInt8 := nm.data.toList ++ ([r.f1, r.f2, r.f3, r.f4].map (fun n => spB.data.toList ++ (t n).data.toList)).flatten ++ nlB.data.toList
theorem str_bytes (s : ByteArray) : Lib.strCells s = Lib.byteCells s.data.toList := by
 rfl
theorem byteCells_append (a b : List UInt8) : Lib.byteCells (a ++ b) = Lib.byteCells a ++ Lib.byteCells b := by simp [Lib.byteCells]
theorem line_bytes (t : Int → ByteArray) (nm : ByteArray) (r : S42) : lineB t nm r = Lib.byteCells (lineU t nm r) := by
 unfold lineB lineU partsB
 simp [Lib.strCells, Lib.byteCells]
/-- The lines of some rows. -/
def linesU (t : Int → ByteArray) (nm : Int → ByteArray) (l : List S42) : List UInt8 := (l.map (fun r => lineU t (nm r.f0) r)).flatten
theorem lineU_len (t : Int → ByteArray) (nm : ByteArray) (r : S42) (ht : ∀ n ∈ [r.f1, r.f2, r.f3, r.f4], (t n).size ≤ 100) (hn : nm.size ≤ 100) : (lineU t nm r).length ≤ 505 := by
 have h := congrArg List.length (line_bytes t nm r)
 have h1 : (Lib.byteCells (lineU t nm r)).length = (lineU t nm r).length := by simp [Lib.byteCells]
 have h2 := partsB_len t [r.f1, r.f2, r.f3, r.f4] ht
 rw [h1] at h
 unfold lineB at h
 rw [List.length_append, List.length_append, Lib.strCells_length, Lib.strCells_length] at h
 have : nlB.size = 1 := rfl
 simp only [List.length_cons, List.length_nil] at h2
 omega
theorem linesU_len (t : Int → ByteArray) (nm : Int → ByteArray) : ∀ l : List S42, (∀ r ∈ l, (∀ n ∈ [r.f1, r.f2, r.f3, r.f4], (t n).size ≤ 100) ∧ (nm r.f0).size ≤ 100) → (linesU t nm l).length ≤ 505 * l.length
 | [], _ => by simp [linesU]
 | r :: l, h => by
  have h1 := linesU_len t nm l (fun m hm => h m (List.mem_cons_of_mem _ hm))
  have h2 := h r (by simp)
  have h3 := lineU_len t (nm r.f0) r h2.1 h2.2
  have e : linesU t nm (r :: l) = lineU t (nm r.f0) r ++ linesU t nm l := by simp [linesU]
  rw [e, List.length_append]
  simp only [List.length_cons]
  omega
theorem linesU_take (t : Int → ByteArray) (nm : Int → ByteArray) (l : List S42) (m : Nat) (h : m < l.length) : linesU t nm (l.take m) ++ lineU t (nm (rd_T42 l (m : Int)).f0) (rd_T42 l (m : Int)) = linesU t nm (l.take (m + 1)) := by
 have e : rd_T42 l (m : Int) = l[m] := by simp [rd_T42, h]
 rw [e, ← List.take_append_getElem h]
 simp only [linesU, List.map_append, List.flatten_append, List.map_cons, List.map_nil, List.flatten_cons, List.flatten_nil, List.append_nil, List.append_assoc]
def sumNm : ByteArray := ⟨#[115, 117, 109]⟩
set_option maxHeartbeats 4000000 in
set_option maxRecDepth 100000 in
theorem Text_yes (A0 : Option Addr) (c0 : Nat) (l : List S42) (k kn ks : Nat) (s : S42) (t : Int → ByteArray) (nm : Int → ByteArray) (w : World) (hC : Kd.C k42 w A0 l.length l) (hc : l.length ≤ c0) (hl : l.length ≤ 1000) (h : stat_Right.f k l = some true)
  (hs : stat_Sum.f ks l = some (s.f0, s.f1, s.f2, s.f3, s.f4)) (hts : ∀ n ∈ [s.f1, s.f2, s.f3, s.f4], num_Text.f kn n = some (t n) ∧ (t n).size ≤ 100)
  (ht : ∀ r ∈ l, (∀ n ∈ [r.f1, r.f2, r.f3, r.f4], num_Text.f kn n = some (t n) ∧ (t n).size ≤ 100) ∧ mutate_Name.f r.f0 = some (nm r.f0) ∧ (nm r.f0).size ≤ 100) :
  Calls Try.prog 18 #[.slice A0 l.length c0] w fun e w' => e = .returned (.string ⟨(linesU t nm l ++ lineU t sumNm s).toArray⟩) ∧ Below w.heap.size w w' := by
 have HC := Aside0.mk (And.intro hC hc)
 have HS := Aside0.mk (And.intro hs hts)
 have HT := Aside0.mk ht
 have HLE : Aside0 (∀ m, (linesU t nm (l.take m)).length ≤ 505000) := ⟨fun m => by
  have := linesU_len t nm (l.take m) (fun r hr => ⟨fun n hn => ((ht r (List.mem_of_mem_take hr)).1 n hn).2, (ht r (List.mem_of_mem_take hr)).2.2⟩)
  have h2 : (l.take m).length ≤ 1000 := by rw [List.length_take]; omega
  omega⟩
 have HL := Aside0.mk hl
 have HRT := Aside0.mk h
 clear hC hc hs hts ht hl h
 go_enter Try.func18, Try.ntmps18
 go_upto_region 3 with (go_at_call 15; go_must (refine (stat_Right.calls k A0 c0 l true w HC.out.1 HC.out.2 HRT.out).mono ?_; rintro e w1 ⟨rfl, h2⟩; have HB := Aside0.mk h2; clear h2))
 go_upto_block 0 with (fail)
 have HD : Aside0 (Lib.IsBuilderF 80 5 w.heap.size w1.heap.size (Lib.byteCells (linesU t nm (l.take 0))) (w1.alloc (.cells #[.pointer none, .slice none 0 0] 80))) := ⟨.inl ⟨HB.out.size, .slice none 0 0, blk_new w1 _, ⟨by simp [linesU, Lib.byteCells], .inl ⟨rfl, by simp [linesU, Lib.byteCells]⟩⟩, by simp [Value.ownBlock]⟩⟩
 have HB1 : Aside0 (Below w.heap.size w (w1.alloc (.cells #[.pointer none, .slice none 0 0] 80))) := ⟨below_alloc HB.out _⟩
 clear HB
 generalize w1.alloc (.cells #[.pointer none, .slice none 0 0] 80) = w2 at HD HB1 ⊢
 generalize w1.heap.size = b at HD ⊢
 go_cut [11] (fun v11 wc => Aside0 (Lib.IsBuilderF 80 5 w.heap.size b (Lib.byteCells (linesU t nm l)) wc) ∧ Aside0 (Below w.heap.size w wc))
 case first =>
  go_wp2
  go_loopg [11] l.length (fun kq v11 w' => ∃ m : Nat, v11 = .int .i64 (m : Int) ∧ Aside0 (m + kq = l.length) ∧ Aside0 (Lib.IsBuilderF 80 5 w.heap.size b (Lib.byteCells (linesU t nm (l.take m))) w') ∧ Aside0 (Below w.heap.size w w'))
  case atStart => exact ⟨0, rfl, ⟨by omega⟩, HD, HB1⟩
  case round =>
   clear HD HB1
   obtain ⟨m, rfl, HI, HD, HB⟩ := hrel
   cases gk with
   | zero =>
    obtain rfl : m = l.length := by have := HI.out; omega
    rw [List.take_length] at HD
    go_wp2
    go_meet
    case rel => exact ⟨HD, HB⟩
   | succ kq =>
    have HM : Aside0 (m < l.length) := ⟨by have := HI.out; omega⟩
    have c1b : decide ((m : Int) < (l.length : Int)) = true := decide_eq_true (by have := HM.out; omega); have c1i : ((m : Int) < (l.length : Int)) = True := eq_true (by have := HM.out; omega); have c1n : (m < l.length) = True := eq_true HM.out
    have p0 : (0 ≤ (m : Int)) = True := eq_true (by omega)
    have hw1 : wrap64 ((m : Int) + 1) = (m : Int) + 1 := by have := HM.out; have := HL.out; unfold wrap64; omega
    obtain ⟨ad, ea, hx0, hx1, hx2, hx3, hx4⟩ := at_T42 (Kd.C_below HC.out.1 HB.out) (m : Int) (by omega) (by have := HM.out; omega)
    subst ea
    simp only [Int.toNat_natCast] at hx0 hx1 hx2 hx3 hx4
    have HTR := Aside0.mk (HT.out (rd_T42 l (m : Int)) (by
     have e : rd_T42 l (m : Int) = l[m]'HM.out := by simp [rd_T42, HM.out]
     rw [e]; exact List.getElem_mem _))
    have HX := Aside0.mk (linesU_take t nm l m HM.out)
    generalize rd_T42 l (m : Int) = r at hx0 hx1 hx2 hx3 hx4 HTR HX
    go_upto_region 7 with (fail)
    have HG : Aside0 ((wr.alloc (.cells #[.int .i64 r.f0, .int .i64 r.f1, .int .i64 r.f2, .int .i64 r.f3, .int .i64 r.f4] 42)).heap[wr.heap.size]? = some (.cells #[.int .i64 r.f0, .int .i64 r.f1, .int .i64 r.f2, .int .i64 r.f3, .int .i64 r.f4] 42 (0, 0))) := ⟨blk_new wr _⟩
    have hb1 := below_alloc (Below.refl wr.heap.size wr) (.cells #[.int .i64 r.f0, .int .i64 r.f1, .int .i64 r.f2, .int .i64 r.f3, .int .i64 r.f4] 42)
    replace HD := Aside0.mk (is_below HD.out hb1)
    replace HB := Aside0.mk (below_then HB.out HB.out.size hb1)
    clear hb1 hx0 hx1 hx2 hx3 hx4
    generalize wr.alloc (.cells #[.int .i64 r.f0, .int .i64 r.f1, .int .i64 r.f2, .int .i64 r.f3, .int .i64 r.f4] 42) = w3 at HG HD HB ⊢
    generalize wr.heap.size = g at HG ⊢
    have a0 : w3.cell? ⟨g, 0, none⟩ = some (.int .i64 r.f0) := (blk_cell HG.out 0).trans rfl
    have a1 : w3.cell? ⟨g, 1, none⟩ = some (.int .i64 r.f1) := (blk_cell HG.out 1).trans rfl
    have a2 : w3.cell? ⟨g, 2, none⟩ = some (.int .i64 r.f2) := (blk_cell HG.out 2).trans rfl
    have a3 : w3.cell? ⟨g, 3, none⟩ = some (.int .i64 r.f3) := (blk_cell HG.out 3).trans rfl
    have a4 : w3.cell? ⟨g, 4, none⟩ = some (.int .i64 r.f4) := (blk_cell HG.out 4).trans rfl
    have hbd : Below w3.heap.size w3 w3.drew := below_drew (Below.refl _ _)
    replace HD := Aside0.mk (is_below HD.out hbd)
    replace HB := Aside0.mk (below_then HB.out HB.out.size hbd)
    clear hbd HG
    refine start_ (n := 5) (S := fun w' => w'.cell? ⟨g, 0, none⟩ = some (.int .i64 r.f0) ∧ w'.cell? ⟨g, 1, none⟩ = some (.int .i64 r.f1) ∧ w'.cell? ⟨g, 2, none⟩ = some (.int .i64 r.f2) ∧ w'.cell? ⟨g, 3, none⟩ = some (.int .i64 r.f3) ∧ w'.cell? ⟨g, 4, none⟩ = some (.int .i64 r.f4)) (ds := [4]) #[false, false, false, false, false] (by kernel_rfl) rfl rfl ⟨a0, a1, a2, a3, a4⟩ (fun hHeld => ?_)
    generalize w3.drew = w4 at HD HB hHeld ⊢
    refine pure_ (i := 0) (N := some 15) (v := ?_) (a' := ?_) #[true, false, false, false, false] rfl rfl (by kernel_rfl) (fun _ _ _ h => h) (Or.inl ⟨by rfl, ?_⟩) ?_ ?_
    rotate_left
    ·intro w'
     go_simp
     with_reducible rfl
    rotate_left
    ·simp only [Act.put, List.setIfInBounds_toArray, List.set_cons_zero, List.set_cons_succ, i64_w, i32_w]
     rfl
    refine take_ (i := 1) (N := some 16) (v := ?_) (a' := ?_) #[true, true, false, false, false] rfl rfl (by kernel_rfl) (fun _ _ _ h => h) (Or.inl ⟨by rfl, ?_⟩) hHeld ?_ ?_
    rotate_left
    ·rintro w' ⟨s0, s1, s2, s3, s4⟩
     go_simp
     with_reducible rfl
    rotate_left
    ·simp only [Act.put, List.setIfInBounds_toArray, List.set_cons_zero, List.set_cons_succ, i64_w, i32_w]
     rfl
    refine take_ (i := 3) (N := some 18) (v := ?_) (a' := ?_) #[true, true, false, true, false] rfl rfl (by kernel_rfl) (fun _ _ _ h => h) (Or.inl ⟨by rfl, ?_⟩) hHeld ?_ ?_
    rotate_left
    ·rintro w' ⟨s0, s1, s2, s3, s4⟩
     go_simp
     with_reducible rfl
    rotate_left
    ·simp only [Act.put, List.setIfInBounds_toArray, List.set_cons_zero, List.set_cons_succ, i64_w, i32_w]
     rfl
    refine one_ (i := 2) (N := some 17) #[true, true, true, true, false] rfl rfl (by kernel_rfl) (by decide) (fun K hK => ?_)
    refine goes_ Try.func33 (by kernel_rfl) rfl #[.int .i64 r.f0] (by rfl) rfl rfl (by simp only [List.map_toArray, List.map_cons, List.map_nil]; rfl) ?_
    with_reducible refine (mutate_Name.calls r.f0 _ _ HTR.out.2.1).mono ?_
    rintro e w5 ⟨rfl, hd⟩
    refine ⟨_, rfl, ?_⟩
    have hb5 := hd.below
    have HD5 := Aside0.mk (is_below HD.out hb5)
    have HB5 := Aside0.mk (below_then HB.out HB.out.size hb5)
    refine hK.out _ _ ⟨(pw_cell_below hb5 hHeld.1), (pw_cell_below hb5 hHeld.2.1), (pw_cell_below hb5 hHeld.2.2.1), (pw_cell_below hb5 hHeld.2.2.2.1), (pw_cell_below hb5 hHeld.2.2.2.2)⟩ (fun hHeld => ?_)
    clear hK K
    refine norm_ (a' := ?_) ?_ ?_
    rotate_left
    ·show Act.put _ (some 17) _ = _
     simp only [Act.put, List.setIfInBounds_toArray, List.set_cons_zero, List.set_cons_succ, i64_w, i32_w]
     rfl
    refine last_ (i := 4) (N := some 19) #[true, true, true, true, true] rfl rfl (by kernel_rfl) (by decide) (fun K hK => ?_)
    refine goes_ Try.func32 (by kernel_rfl) rfl #[.pointer (some ⟨b, 0, none⟩), .string (nm r.f0), .agg #[.int .i64 r.f0, .int .i64 r.f1, .int .i64 r.f2, .int .i64 r.f3, .int .i64 r.f4]] (by rfl) rfl rfl (by simp only [List.map_toArray, List.map_cons, List.map_nil]; rfl) ?_
    with_reducible refine (line_calls (nm r.f0) r kn t HTR.out.1 HTR.out.2.2 (by have := HLE.out m; simp [Lib.byteCells]; omega) HB5.out.size HD5.out).mono ?_
    rintro e w6 ⟨rfl, h6, b6⟩
    refine ⟨_, rfl, ?_⟩
    have HD6 := Aside0.mk h6
    have HB6 := Aside0.mk (HB5.out.trans b6)
    clear h6 b6 HD5 HB5
    refine hK.out _ _ ?_
    clear hK K
    refine norm_ (a' := ?_) ?_ ?_
    rotate_left
    ·show Act.put _ (some 19) _ = _
     simp only [Act.put, List.setIfInBounds_toArray, List.set_cons_zero, List.set_cons_succ, i64_w, i32_w]
     rfl
    refine done_ (by kernel_rfl) ?_
    go_wp2
    go_roundg kq
    case measure => omega
    case rel => exact ⟨m + 1, by push_cast; rw [hw1], ⟨by have := HI.out; omega⟩, ⟨.inr (by have h := HD6.out; rw [line_bytes, ← byteCells_append, HX.out] at h; exact h)⟩, HB6⟩
 case rest =>
 clear HD HB1
 obtain ⟨HD, HB⟩ := hcut
 go_wp2_with (first | (go_at_call 21; go_must (refine (stat_Sum.calls ks A0 c0 l s.f0 s.f1 s.f2 s.f3 s.f4 wc (Kd.C_below HC.out.1 HB.out) HC.out.2 HS.out.1).mono ?_; rintro e w5 ⟨rfl, b5⟩; have HD5 := Aside0.mk (is_below HD.out b5); have HB5 := Aside0.mk (below_then HB.out HB.out.size b5); clear b5 HD HB)) | (go_at_call 32; go_must (refine (line_calls (w := w5) sumNm s kn t HS.out.2 (by decide) (by have h9 := HLE.out l.length; rw [List.take_length] at h9; simp [Lib.byteCells]; omega) HB5.out.size HD5.out).mono ?_; rintro e w6 ⟨rfl, h6, b6⟩; rw [line_bytes, ← byteCells_append] at h6; have HD6 := Aside0.mk h6; have HB6 := Aside0.mk (HB5.out.trans b6); clear h6 b6 HD5 HB5)) | (go_at_call 34; go_must (refine (string_calls _ b _ w6 (.inr HD6.out) (by simp [lineU])).mono ?_; rintro e w7 ⟨rfl, -, b7, -⟩; have HB7 := Aside0.mk (HB6.out.trans b7); clear b7)))
 go_ret
 exact ⟨rfl, HB7.out⟩
end Go.Proofs.Ytcmknnhhbcgoiaa.QN
