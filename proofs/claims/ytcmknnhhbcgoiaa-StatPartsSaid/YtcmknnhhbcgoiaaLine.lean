/- stat.line: what it writes into a strings.Builder. -/
import Derived.Test.YtcmknnhhbcgoiaaQN3
import Derived.Test.YtcmknnhhbcgoiaaQN4
import Derived.Test.YtcmknnhhbcgoiaaBld
import Derived.Deep.DeepMust
namespace Go.Proofs.Ytcmknnhhbcgoiaa.QN
open Go.RowKit Go.Proofs.YtcmknnhhbcgoiaaW.PrintWords Go.Proofs.YtcmknnhhbcgoiaaW.PrintLast Go.Proofs.YtcmknnhhbcgoiaaW.PrintMore
set_option linter.unusedVariables false
set_option linter.unusedSimpArgs false

theorem at_below {T e : TypeId} {B b : Nat} {p : Value} {bs : List Value} {w w2 : World} (h : Lib.BuilderAtF T e B b p bs w) (hb : Below w.heap.size w w2) : Lib.BuilderAtF T e B b p bs w2 := by
  obtain ⟨hB, v, h1, h2, h3⟩ := h
  refine ⟨hB, v, blk_below h1 hb, ?_, h3⟩
  obtain ⟨h4, h5⟩ := h2
  refine ⟨h4, ?_⟩
  rcases h5 with h5 | ⟨g, cap, cur, fz, a1, a2, a3, a4⟩
  · exact .inl h5
  · exact .inr ⟨g, cap, cur, fz, a1, a2, blk_below a3 hb, a4⟩
theorem is_below {T e : TypeId} {B b : Nat} {bs : List Value} {w w2 : World} (h : Lib.IsBuilderF T e B b bs w) (hb : Below w.heap.size w w2) : Lib.IsBuilderF T e B b bs w2 :=
  h.elim (fun x => .inl (at_below x hb)) (fun x => .inr (at_below x hb))
theorem below_le {B B' : Nat} {a b : World} (h : Below B a b) (hle : B' ≤ B) : Below B' a b := ⟨h.os, h.tape, h.output, h.size, fun k hk => h.block k (by omega)⟩
abbrev spB : ByteArray := ⟨#[32]⟩
abbrev nlB : ByteArray := ⟨#[10]⟩
/-- What comes of some numbers. -/
def partsB (t : Int → ByteArray) (l : List Int) : List Value := (l.map (fun n => Lib.strCells spB ++ Lib.strCells (t n))).flatten
theorem partsB_len (t : Int → ByteArray) : ∀ l : List Int, (∀ n ∈ l, (t n).size ≤ 100) → (partsB t l).length ≤ 101 * l.length
  | [], _ => by simp [partsB]
  | n :: l, h => by
    have h1 := partsB_len t l (fun m hm => h m (List.mem_cons_of_mem _ hm))
    have h2 := h n (by simp)
    have e : partsB t (n :: l) = (Lib.strCells spB ++ Lib.strCells (t n)) ++ partsB t l := by simp [partsB]
    rw [e, List.length_append, List.length_append, Lib.strCells_length, Lib.strCells_length]
    have : spB.size = 1 := rfl
    simp only [List.length_cons]
    omega
theorem partsB_take (t : Int → ByteArray) (l : List Int) (m : Nat) (h : m < l.length) : partsB t (l.take m) ++ Lib.strCells spB ++ Lib.strCells (t (rd l (m : Int))) = partsB t (l.take (m + 1)) := by
  have e : rd l (m : Int) = l[m] := by simp [rd, h]
  rw [e, ← List.take_append_getElem h]
  simp only [partsB, List.map_append, List.flatten_append, List.map_cons, List.map_nil, List.flatten_cons, List.flatten_nil, List.append_nil, List.append_assoc]
/-- A line. -/
def lineB (t : Int → ByteArray) (nm : ByteArray) (r : S42) : List Value := Lib.strCells nm ++ partsB t [r.f1, r.f2, r.f3, r.f4] ++ Lib.strCells nlB
set_option maxHeartbeats 4000000 in
set_option maxRecDepth 100000 in
theorem line_calls {w : World} {B b : Nat} {bs : List Value} (nm : ByteArray) (r : S42) (k : Nat) (t : Int → ByteArray) (ht : ∀ n ∈ [r.f1, r.f2, r.f3, r.f4], num_Text.f k n = some (t n) ∧ (t n).size ≤ 100) (hn : nm.size ≤ 100) (hb : bs.length ≤ 1000000000) (hB : B ≤ w.heap.size) (h : Lib.IsBuilderF 80 5 B b bs w) :
    Calls Try.prog 32 #[.pointer (some ⟨b, 0, none⟩), .string nm, .agg #[.int .i64 r.f0, .int .i64 r.f1, .int .i64 r.f2, .int .i64 r.f3, .int .i64 r.f4]] w fun e w' => e = .returned (.tuple #[]) ∧ Lib.BuilderAtF 80 5 B b (.pointer (some ⟨b, 0, none⟩)) (bs ++ lineB t nm r) w' ∧ Below B w w' := by
  have HT := Aside0.mk ht
  have HX : Aside0 (nm.size ≤ 100 ∧ bs.length ≤ 1000000000 ∧ B ≤ w.heap.size) := ⟨hn, hb, hB⟩
  obtain ⟨ns, hns⟩ : ∃ ns, [r.f1, r.f2, r.f3, r.f4] = ns := ⟨_, rfl⟩
  have HNS := Aside0.mk hns
  have HNL : Aside0 (ns.length = 4) := ⟨by rw [← hns]; rfl⟩
  have HPL : Aside0 (∀ m, (partsB t (ns.take m)).length ≤ 404) := ⟨fun m => by
    have := partsB_len t (ns.take m) (fun n hn => (ht n (by rw [hns]; exact List.mem_of_mem_take hn)).2)
    have h2 : (ns.take m).length ≤ 4 := by rw [List.length_take]; have := HNL.out; omega
    omega⟩
  have hw1 : Below w.heap.size w (w.alloc (.cells #[.int .i64 r.f0, .int .i64 r.f1, .int .i64 r.f2, .int .i64 r.f3, .int .i64 r.f4] 42)) := below_alloc (Below.refl _ _) _
  have HD : Aside0 (Lib.IsBuilderF 80 5 B b bs (w.alloc (.cells #[.int .i64 r.f0, .int .i64 r.f1, .int .i64 r.f2, .int .i64 r.f3, .int .i64 r.f4] 42))) := ⟨is_below h hw1⟩
  have HG : Aside0 ((w.alloc (.cells #[.int .i64 r.f0, .int .i64 r.f1, .int .i64 r.f2, .int .i64 r.f3, .int .i64 r.f4] 42)).heap[w.heap.size]? = some (.cells #[.int .i64 r.f0, .int .i64 r.f1, .int .i64 r.f2, .int .i64 r.f3, .int .i64 r.f4] 42 (0, 0))) := ⟨blk_new w _⟩
  have HBL : Aside0 (Below B w (w.alloc (.cells #[.int .i64 r.f0, .int .i64 r.f1, .int .i64 r.f2, .int .i64 r.f3, .int .i64 r.f4] 42))) := ⟨below_le hw1 hB⟩
  have HNE : Aside0 (w.heap.size ≠ b) := ⟨by
    rcases h with h | h
    · have := h.lt; omega
    · have := h.lt; omega⟩
  clear ht hn hb hB h hw1
  go_enter Try.func32, Try.ntmps32
  go_upto_region 1 with (fail)
  generalize w.alloc (.cells #[.int .i64 r.f0, .int .i64 r.f1, .int .i64 r.f2, .int .i64 r.f3, .int .i64 r.f4] 42) = w1 at HD HG HBL ⊢
  obtain ⟨g, hg⟩ : ∃ g, w.heap.size = g := ⟨_, rfl⟩
  have HGW := Aside0.mk hg
  rw [hg] at HG HNE ⊢
  clear hg
  go_upto_region 2 with (go_at_call 38; go_must (refine (write_calls B b bs nm w1 HD.out (by have := HX.out; omega) (Nat.le_trans HX.out.2.2 HBL.out.size)).mono ?_; rintro e w2 ⟨rfl, h2, b2, k2⟩; have HD2 := Aside0.mk h2; have HB2 := Aside0.mk (HBL.out.trans b2); have HG2 := Aside0.mk (k2 _ _ HG.out (fun e => HNE.out (by injection e)) (fun c fz e => by cases e)); clear h2 b2 k2 HD HBL HG))
  have a0 : w2.cell? ⟨g, 0, none⟩ = some (.int .i64 r.f0) := (blk_cell HG2.out 0).trans rfl
  have a1 : w2.cell? ⟨g, 1, none⟩ = some (.int .i64 r.f1) := (blk_cell HG2.out 1).trans rfl
  have a2 : w2.cell? ⟨g, 2, none⟩ = some (.int .i64 r.f2) := (blk_cell HG2.out 2).trans rfl
  have a3 : w2.cell? ⟨g, 3, none⟩ = some (.int .i64 r.f3) := (blk_cell HG2.out 3).trans rfl
  have a4 : w2.cell? ⟨g, 4, none⟩ = some (.int .i64 r.f4) := (blk_cell HG2.out 4).trans rfl
  go_upto_block 0 with (go_at_call 37; go_must (refine (stat_numbers.calls r.f0 r.f1 r.f2 r.f3 r.f4 ns w2 (by rw [← HNS.out]; rfl)).mono ?_; rintro e w3 ⟨vn, rfl, hR, b3⟩; have HD3 := Aside0.mk (at_below HD2.out b3); have HB3 := Aside0.mk (HB2.out.trans (below_le b3 (Nat.le_trans HX.out.2.2 HB2.out.size))); obtain ⟨gn, cn, rfl, hgn, hgl, cur, hcur⟩ := Kd.R_form hR (by have := HNL.out; omega); have HC := Aside0.mk (Kd.R_reads' hR).2.2; have HN3 := Aside0.mk hcur; have HNB : Aside0 (gn ≠ b) := ⟨by have := HD2.out.lt; omega⟩; rw [HNL.out] at HC ⊢; clear hR b3 hgn hgl hcur HD2 HB2 HG2 a0 a1 a2 a3 a4))
  have HCC : Aside0 (∀ (W : World), W.heap[gn]? = some (.cells cur 3 (0, 0)) → ∀ i : Nat, i < 4 → W.cell? ⟨gn, i, none⟩ = some (.int .i64 (rd ns (i : Int)))) := ⟨fun W hW i hi => by
    obtain ⟨ad, ea, hx⟩ := Kd.at_int HC.out (i : Int) (by omega) (by omega)
    have ea2 : ad = ⟨gn, 0, none⟩ := (Option.some.inj ea).symm
    subst ea2
    have e3 : (Addr.add ⟨gn, 0, none⟩ i) = ⟨gn, i, none⟩ := by
      simp [Addr.add]
      intro h; omega
    rw [Int.toNat_natCast, e3] at hx
    rw [blk_cell HN3.out] at hx
    rw [blk_cell hW]; exact hx⟩
  clear HC
  have HD4 : Aside0 (Lib.BuilderAtF 80 5 B b (.pointer (some ⟨b, 0, none⟩)) (bs ++ Lib.strCells nm ++ partsB t (ns.take 0)) w3) := ⟨by simpa [partsB] using HD3.out⟩
  clear HD3
  go_cut [14] (fun v14 wc => Aside0 (Lib.BuilderAtF 80 5 B b (.pointer (some ⟨b, 0, none⟩)) (bs ++ Lib.strCells nm ++ partsB t ns) wc) ∧ Aside0 (Below B w wc))
  case first =>
    go_wp2
    go_loopg [14] 4 (fun kq v14 w' => ∃ m : Nat, v14 = .int .i64 (m : Int) ∧ Aside0 (m + kq = 4) ∧ Aside0 (Lib.BuilderAtF 80 5 B b (.pointer (some ⟨b, 0, none⟩)) (bs ++ Lib.strCells nm ++ partsB t (ns.take m)) w') ∧ Aside0 (w'.heap[gn]? = some (.cells cur 3 (0, 0))) ∧ Aside0 (Below B w w'))
    case atStart => exact ⟨0, rfl, ⟨by omega⟩, HD4, HN3, HB3⟩
    case round =>
      clear HD4 HN3 HB3
      obtain ⟨m, rfl, HI, HD, HN, HB⟩ := hrel
      cases gk with
      | zero =>
        obtain rfl : 4 = m := by have := HI.out; omega
        have HD5 : Aside0 (Lib.BuilderAtF 80 5 B b (.pointer (some ⟨b, 0, none⟩)) (bs ++ Lib.strCells nm ++ partsB t ns) wr) := ⟨by have h := HD.out; rw [List.take_of_length_le (by have := HNL.out; omega)] at h; exact h⟩
        go_wp2
        go_meet
        case rel => exact ⟨HD5, HB⟩
      | succ kq =>
        have HM4 : Aside0 (m < 4) := ⟨by have := HI.out; omega⟩
        have c1b : decide ((m : Int) < 4) = true := decide_eq_true (by have := HM4.out; omega); have c1i : ((m : Int) < 4) = True := eq_true (by have := HM4.out; omega); have c1n : (m < 4) = True := eq_true HM4.out
        have p0 : (0 ≤ (m : Int)) = True := eq_true (by omega)
        have hw1 : wrap64 ((m : Int) + 1) = (m : Int) + 1 := by have := HM4.out; unfold wrap64; omega
        have hx := HCC.out wr HN.out m HM4.out
        have HTM : Aside0 (num_Text.f k (rd ns (m : Int)) = some (t (rd ns (m : Int))) ∧ (t (rd ns (m : Int))).size ≤ 100) := ⟨HT.out _ (by
          rw [HNS.out]
          have hl : m < ns.length := by have := HNL.out; have := HM4.out; omega
          have e : rd ns (m : Int) = ns[m] := by simp [rd, hl]
          rw [e]; exact List.getElem_mem _)⟩
        have HPM := Aside0.mk (partsB_take t ns m (by have := HNL.out; have := HM4.out; omega))
        generalize rd ns (m : Int) = n at hx HTM HPM
        go_upto_region 6 with (go_at_call 38; go_must (refine (write_calls B b _ ⟨#[32]⟩ wr (.inr HD.out) (by rw [List.length_append, List.length_append, Lib.strCells_length]; have := HX.out; have := HPL.out m; have : ByteArray.size ⟨#[32]⟩ = 1 := rfl; omega) (Nat.le_trans HX.out.2.2 HB.out.size)).mono ?_; rintro e w5 ⟨rfl, h5, b5, k5⟩; have HD5 := Aside0.mk h5; have HN5 := Aside0.mk (k5 _ _ HN.out (fun e => HNB.out (by injection e)) (fun c fz e => by cases e)); have HB5 := Aside0.mk (HB.out.trans b5); clear h5 b5 k5 HD HN HB hx))
        go_wp2_with (first | (go_at_call 39; go_must (refine (num_Text.calls k n _ _ HTM.out.1).mono ?_; rintro e w6 ⟨rfl, b6⟩; have HD6 := Aside0.mk (at_below HD5.out b6); have HN6 := Aside0.mk (blk_below HN5.out b6); have HB6 := Aside0.mk (HB5.out.trans (below_le b6 (Nat.le_trans HX.out.2.2 HB5.out.size))); clear b6 HD5 HN5 HB5)) | (go_at_call 38; go_must (refine (write_calls B b _ (t n) _ (.inr HD6.out) (by rw [List.length_append, List.length_append, List.length_append, Lib.strCells_length, Lib.strCells_length]; have := HX.out; have := HPL.out m; have : ByteArray.size ⟨#[32]⟩ = 1 := rfl; have := HTM.out.2; omega) (Nat.le_trans HX.out.2.2 HB6.out.size)).mono ?_; rintro e w7 ⟨rfl, h7, b7, k7⟩; have HD7 := Aside0.mk h7; have HN7 := Aside0.mk (k7 _ _ HN6.out (fun e => HNB.out (by injection e)) (fun c fz e => by cases e)); have HB7 := Aside0.mk (HB6.out.trans b7); clear h7 b7 k7 HD6 HN6 HB6)))
        go_roundg kq
        case measure => omega
        case rel => exact ⟨m + 1, by push_cast; rw [hw1], ⟨by have := HI.out; omega⟩, ⟨by have h := HD7.out; rw [← HPM.out]; simpa [List.append_assoc] using h⟩, HN7, HB7⟩
  case rest =>
  clear HD4 HN3 HB3
  obtain ⟨HD, HB⟩ := hcut
  go_wp2_with (go_at_call 38; go_must (refine (write_calls B b _ nlB _ (.inr HD.out) (by rw [List.length_append, List.length_append, Lib.strCells_length]; have := HX.out; have := HPL.out 4; rw [List.take_of_length_le (by have := HNL.out; omega)] at this; have : nlB.size = 1 := rfl; omega) (Nat.le_trans HX.out.2.2 HB.out.size)).mono ?_; rintro e w5 ⟨rfl, h5, b5, k5⟩; have HD5 := Aside0.mk h5; have HB5 := Aside0.mk (HB.out.trans b5); clear h5 b5 k5 HD HB))
  first | go_end0 | ((try simp only [Exit.inBlock, Exit.then]); refine bodyPost_ret (results_none rfl _ _ _) rfl ?_)
  exact ⟨rfl, by have h := HD5.out; unfold lineB; rw [HNS.out]; simpa [List.append_assoc] using h, HB5.out⟩
end Go.Proofs.Ytcmknnhhbcgoiaa.QN
