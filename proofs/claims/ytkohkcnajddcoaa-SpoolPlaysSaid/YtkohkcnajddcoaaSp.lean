/- What a spool's calls do, for each spool that New made: New, made, Open, Len, Room, Put, Take, Close. No condition but the spool's own form. -/
import Derived.Test.YtkohkcnajddcoaaQN0
import Derived.Test.YtkohkcnajddcoaaSel
import Derived.Test.YtkohkcnajddcoaaChecked
import Derived.Conc.LoneCalls
import Derived.Conc.LoneSelectN
import Derived.Deep.DeepMust
namespace Go.Proofs.Ytkohkcnajddcoaa.QN
open Go.RowKit Go.Conc Go.Proofs.YtkohkcnajddcoaaW.PrintWords Go.Proofs.YtkohkcnajddcoaaW.PrintLast Go.Proofs.YtkohkcnajddcoaaW.PrintMore
set_option linter.unusedVariables false
set_option linter.unusedSimpArgs false

/-- A spool in memory: its block, its channel's block. -/
structure Sp (T : TypeId) (W : World) (p c cap : Nat) (xs : List Value) (cl : Bool) : Prop where
  gb : W.heap[p]? = some (.cells #[.chan (some c), .bool cl] T (0, 0))
  gc : ∃ s r, W.heap[c]? = some (.chan cap xs.toArray cl s r false)
  hl : xs.length ≤ cap
  hc : cap ≤ 1024
section
variable {T : TypeId} {W W2 : World} {p c cap : Nat} {xs xs' : List Value} {cl : Bool} {S : Nat → Prop}
theorem Sp.kept (h : Sp T W p c cap xs cl) (hk : Kept W W2 S) (hp : ¬ S p) (hc : ¬ S c) : Sp T W2 p c cap xs cl :=
  ⟨blk_kept h.gb hk hp, by obtain ⟨s, r, e⟩ := h.gc; exact ⟨s, r, blk_kept e hk hc⟩, h.hl, h.hc⟩
theorem Sp.below (h : Sp T W p c cap xs cl) (hb : Below W.heap.size W W2) : Sp T W2 p c cap xs cl :=
  h.kept (Kept.of_below hb (fun _ => False)) (fun h => h) (fun h => h)
theorem Sp.ne (h : Sp T W p c cap xs cl) : p ≠ c := by
  obtain ⟨s, r, e⟩ := h.gc
  rintro rfl
  rw [h.gb] at e
  cases e
theorem Sp.plt (h : Sp T W p c cap xs cl) : p < W.heap.size := blk_lt h.gb
theorem Sp.clt (h : Sp T W p c cap xs cl) : c < W.heap.size := by
  obtain ⟨s, r, e⟩ := h.gc
  exact blk_lt e
theorem chan_other (w : World) (c c' cap : Nat) (buf : Array Value) (closed : Bool) (s r : Nat) (tm : Bool) (h : c ≠ c') : (w.setChan c cap buf closed s r tm).heap[c']? = w.heap[c']? := by
  simp [World.setChan, Array.getElem?_setIfInBounds_ne h]
theorem kept_chan (W : World) (c cap : Nat) (buf : Array Value) (cl : Bool) (s r : Nat) : Kept W (W.setChan c cap buf cl s r false) (fun k => k = c) :=
  ⟨by rw [size_setChan]; exact Nat.le_refl _, fun i _ hn => chan_other _ _ _ _ _ _ _ _ _ (fun e => hn e.symm)⟩
theorem below_chan {B : Nat} (W : World) (c cap : Nat) (buf : Array Value) (cl : Bool) (s r : Nat) (h : B ≤ c) : Below B W (W.setChan c cap buf cl s r false) := below_setChan (Below.refl _ _) h _ _ _ _ _ _
theorem Sp.chan (h : Sp T W p c cap xs cl) (s r : Nat) (hl : xs'.length ≤ cap) : Sp T (W.setChan c cap xs'.toArray cl s r false) p c cap xs' cl :=
  ⟨(chan_other _ _ _ _ _ _ _ _ _ h.ne.symm).trans h.gb, ⟨s, r, heap_setChan _ _ _ _ _ _ _ _ h.clt⟩, hl, h.hc⟩
end

theorem run_neq_chan_nil {P : Program} (w : World) (t : TypeId) {d : ChanDir} {e : TypeId} (r : Option Nat) (h : P.underlying t = some (.chan d e)) :
    (binOp .neq t (.chan r) (.chan none)).run P w = .ok (.bool (!r.isNone)) w := by
  have he : ∀ n : Nat, (Op.equalIn (n + 1) t (.chan r) (.chan none)).run P w = .ok r.isNone w := fun n => by
    cases r <;> simp [Op.equalIn, run_underlying h]
  simp only [binOp]
  simp [Op.equal, Op.maxDepth, he 9999]

theorem bytesI : ∃ i, Try.prog.info? 3 = some i ∧ i.bytes = 8 := by
  have h : (Try.prog.info? 3).map (·.bytes) = some 8 := by kernel_rfl
  obtain ⟨i, hi, hb⟩ := Option.map_eq_some_iff.1 h
  exact ⟨i, hi, hb⟩
theorem bytesS : ∃ i, Try.prog.info? 9 = some i ∧ i.bytes = 16 := by
  have h : (Try.prog.info? 9).map (·.bytes) = some 16 := by kernel_rfl
  obtain ⟨i, hi, hb⟩ := Option.map_eq_some_iff.1 h
  exact ⟨i, hi, hb⟩
/-! ### the spool of int -/
section
variable {W : World} {p c cap : Nat} {xs : List Value} {cl : Bool}
theorem madeI_calls (h : Sp 62 W p c cap xs cl) : Calls Try.prog 30 #[.pointer (some ⟨p, 0, none⟩)] W fun e w' => e = .returned (.bool true) ∧ W = w' := by
  have hc0 : W.cell? ⟨p, 0, none⟩ = some (.chan (some c)) := (blk_cell h.gb 0).trans rfl
  have hn := run_neq_chan_nil (P := Try.prog) W 60 (some c) Try.underlying60
  go_enter Try.func30, Try.ntmps30
  go_wp2
  go_ret
  exact ⟨rfl, rfl⟩
theorem openI_calls (h : Sp 62 W p c cap xs cl) : Calls Try.prog 11 #[.pointer (some ⟨p, 0, none⟩)] W fun e w' => e = .returned (.bool (!cl)) ∧ W = w' := by
  have hc0 : W.cell? ⟨p, 1, none⟩ = some (.bool cl) := (blk_cell h.gb 1).trans rfl
  go_enter Try.func11, Try.ntmps11
  go_wp2_with (go_at_call 30; go_must (refine (madeI_calls h).mono ?_; rintro e w2 ⟨rfl, rfl⟩))
  go_ret
  exact ⟨rfl, rfl⟩
theorem lenI_calls (h : Sp 62 W p c cap xs cl) : Calls Try.prog 12 #[.pointer (some ⟨p, 0, none⟩)] W fun e w' => e = .returned (.int .i64 (xs.length : Int)) ∧ W = w' := by
  have hc0 : W.cell? ⟨p, 0, none⟩ = some (.chan (some c)) := (blk_cell h.gb 0).trans rfl
  obtain ⟨s, r, hch⟩ := h.gc
  have hlen := fun ty => run_len_chan (P := Try.prog) 60 ty Try.underlying60 hch
  go_enter Try.func12, Try.ntmps12
  go_wp2_with (go_at_call 30; go_must (refine (madeI_calls h).mono ?_; rintro e w2 ⟨rfl, rfl⟩))
  go_ret
  exact ⟨rfl, rfl⟩
theorem putI_ok (v : Value) (h : Sp 62 W p c cap xs false) (hx : xs.length < cap) : Calls Try.prog 9 #[.pointer (some ⟨p, 0, none⟩), v] W fun e w' => e = .returned (.bool true) ∧ Sp 62 w' p c cap (xs ++ [v]) false ∧ Kept W w' (fun k => k = c) ∧ Below c W w' := by
  have hc0 : W.cell? ⟨p, 0, none⟩ = some (.chan (some c)) := (blk_cell h.gb 0).trans rfl
  obtain ⟨s, r, hch⟩ := h.gc
  have HF : Aside0 (Sp 62 (W.setChan c cap (xs.toArray.push v) false (s + 1) r false) p c cap (xs ++ [v]) false ∧ Kept W (W.setChan c cap (xs.toArray.push v) false (s + 1) r false) (fun k => k = c) ∧ Below c W (W.setChan c cap (xs.toArray.push v) false (s + 1) r false)) := by
    refine ⟨⟨?_, kept_chan _ _ _ _ _ _ _, below_chan _ _ _ _ _ _ _ (Nat.le_refl _)⟩⟩
    have := h.chan (xs' := xs ++ [v]) (s + 1) r (by simp; omega)
    simpa using this
  go_enter Try.func9, Try.ntmps9
  go_upto_region 5 with (go_at_call 11; go_must (refine (openI_calls h).mono ?_; rintro e w2 ⟨rfl, rfl⟩))
  refine wp_sel_put (c := c) (cap := cap) (buf := xs.toArray) (s := s) (r := r) (v := v) (z := (.int .i64 0)) rfl (by simp [go_sem, execOp, scase, Act.eval]) hch (by simpa using hx) ?_
  generalize W.setChan c cap (xs.toArray.push v) false (s + 1) r false = w5 at HF ⊢
  go_wp2
  go_ret
  exact ⟨rfl, HF.out⟩
theorem putI_full (v : Value) (h : Sp 62 W p c cap xs false) (hx : xs.length = cap) : Calls Try.prog 9 #[.pointer (some ⟨p, 0, none⟩), v] W fun e w' => e = .returned (.bool false) ∧ W = w' := by
  have hc0 : W.cell? ⟨p, 0, none⟩ = some (.chan (some c)) := (blk_cell h.gb 0).trans rfl
  obtain ⟨s, r, hch⟩ := h.gc
  go_enter Try.func9, Try.ntmps9
  go_upto_region 5 with (go_at_call 11; go_must (refine (openI_calls h).mono ?_; rintro e w2 ⟨rfl, rfl⟩))
  refine wp_sel_full (c := c) (cap := cap) (buf := xs.toArray) (s := s) (r := r) (v := v) (z := (.int .i64 0)) rfl (by simp [go_sem, execOp, scase, Act.eval]) hch (by simp; omega) ?_
  go_wp2
  go_ret
  exact ⟨rfl, rfl⟩
theorem putI_shut (v : Value) (h : Sp 62 W p c cap xs true) : Calls Try.prog 9 #[.pointer (some ⟨p, 0, none⟩), v] W fun e w' => e = .returned (.bool false) ∧ W = w' := by
  go_enter Try.func9, Try.ntmps9
  go_wp2_with (go_at_call 11; go_must (refine (openI_calls h).mono ?_; rintro e w2 ⟨rfl, rfl⟩))
  go_ret
  exact ⟨rfl, rfl⟩
theorem takeI_ok (v : Value) (h : Sp 62 W p c cap (v :: xs) cl) : Calls Try.prog 13 #[.pointer (some ⟨p, 0, none⟩)] W fun e w' => e = .returned (.tuple #[v, .bool true]) ∧ Sp 62 w' p c cap xs cl ∧ Kept W w' (fun k => k = c) ∧ Below c W w' := by
  have hc0 : W.cell? ⟨p, 0, none⟩ = some (.chan (some c)) := (blk_cell h.gb 0).trans rfl
  obtain ⟨s, r, hch⟩ := h.gc
  have HF : Aside0 (Sp 62 (W.setChan c cap ((v :: xs).toArray.extract 1 (v :: xs).toArray.size) cl s (r + 1) false) p c cap xs cl ∧ Kept W (W.setChan c cap ((v :: xs).toArray.extract 1 (v :: xs).toArray.size) cl s (r + 1) false) (fun k => k = c) ∧ Below c W (W.setChan c cap ((v :: xs).toArray.extract 1 (v :: xs).toArray.size) cl s (r + 1) false)) := by
    refine ⟨⟨?_, kept_chan _ _ _ _ _ _ _, below_chan _ _ _ _ _ _ _ (Nat.le_refl _)⟩⟩
    have h1 := h.hl
    have := h.chan (xs' := xs) s (r + 1) (by simp at h1; omega)
    have e : (v :: xs).toArray.extract 1 (v :: xs).toArray.size = xs.toArray := by simp
    rw [e]
    exact this
  go_enter Try.func13, Try.ntmps13
  go_upto_region 5 with (go_at_call 30; go_must (refine (madeI_calls h).mono ?_; rintro e w2 ⟨rfl, rfl⟩))
  refine wp_sel_take (c := c) (cap := cap) (buf := (v :: xs).toArray) (s := s) (r := r) (z := (.int .i64 0)) rfl (by simp [go_sem, execOp, rcase, Act.eval]) hch (by simp) ?_
  generalize W.setChan c cap ((v :: xs).toArray.extract 1 (v :: xs).toArray.size) cl s (r + 1) false = w5 at HF ⊢
  go_wp2
  go_ret2
  exact ⟨rfl, HF.out⟩
theorem takeI_none (h : Sp 62 W p c cap [] cl) : Calls Try.prog 13 #[.pointer (some ⟨p, 0, none⟩)] W fun e w' => e = .returned (.tuple #[(.int .i64 0), .bool false]) ∧ W = w' := by
  have hc0 : W.cell? ⟨p, 0, none⟩ = some (.chan (some c)) := (blk_cell h.gb 0).trans rfl
  obtain ⟨s, r, hch⟩ := h.gc
  cases cl with
  | false =>
    go_enter Try.func13, Try.ntmps13
    go_upto_region 5 with (go_at_call 30; go_must (refine (madeI_calls h).mono ?_; rintro e w2 ⟨rfl, rfl⟩))
    refine wp_sel_none (c := c) (cap := cap) (s := s) (r := r) (z := (.int .i64 0)) rfl (by simp [go_sem, execOp, rcase, Act.eval]) hch ?_
    go_wp2
    go_ret2
    exact ⟨rfl, rfl⟩
  | true =>
    go_enter Try.func13, Try.ntmps13
    go_upto_region 5 with (go_at_call 30; go_must (refine (madeI_calls h).mono ?_; rintro e w2 ⟨rfl, rfl⟩))
    refine wp_sel_shut (c := c) (cap := cap) (s := s) (r := r) (z := (.int .i64 0)) rfl (by simp [go_sem, execOp, rcase, Act.eval]) hch ?_
    go_wp2
    go_ret2
    exact ⟨rfl, rfl⟩
theorem mkI (w : World) (n : Nat) (h1 : n ≤ 1024) : (Instr.makeChan 60 (.int .i64 (n : Int))).run Try.prog w = .ok (.chan (some w.heap.size)) (w.alloc (.chan n #[] false 0 0 false)) := by
  obtain ⟨i, hi, hb⟩ := bytesI
  simpa using run_makeChan (P := Try.prog) (w := w) Try.underlying60 hi .i64 n (by omega) (by rw [hb]; omega)
theorem newI_ok (n : Nat) (h1 : n ≤ 1024) : Calls Try.prog 8 #[.int .i64 (n : Int)] W fun e w' => ∃ p c, e = .returned (.tuple #[.pointer (some ⟨p, 0, none⟩), .int .i64 0]) ∧ Sp 62 w' p c n [] false ∧ W.heap.size ≤ p ∧ W.heap.size ≤ c ∧ Below W.heap.size W w' := by
  have hmk := mkI W n h1
  have c0 : decide ((n : Int) < 0) = false := decide_eq_false (by omega)
  have c1 : decide (1024 < (n : Int)) = false := decide_eq_false (by omega)
  have HF : Aside0 (Sp 62 ((W.alloc (.chan n #[] false 0 0 false)).alloc (.cells #[.chan (some W.heap.size), .bool false] 62)) (W.heap.size + 1) W.heap.size n [] false ∧ Below W.heap.size W ((W.alloc (.chan n #[] false 0 0 false)).alloc (.cells #[.chan (some W.heap.size), .bool false] 62))) := by
    have hb := below_alloc (Below.refl W.heap.size W) (.chan n #[] false 0 0 false)
    have hb2 := below_alloc hb (.cells #[.chan (some W.heap.size), .bool false] 62)
    refine ⟨⟨?_, ⟨0, 0, ?_⟩, Nat.zero_le _, by omega⟩, hb2⟩
    · have := blk_new (W.alloc (.chan n #[] false 0 0 false)) (.cells #[.chan (some W.heap.size), .bool false] 62)
      simpa using this
    · exact blk_alloc (blk_new W _) _
  clear h1
  go_enter Try.func8, Try.ntmps8
  go_wp2
  go_ret2
  exact ⟨_, _, rfl, HF.out.1, Nat.le_succ _, Nat.le_refl _, HF.out.2⟩
theorem newI_no (n : Int) (h : n < 0 ∨ 1024 < n) : Calls Try.prog 8 #[.int .i64 n] W fun e w' => e = .returned (.tuple #[.pointer none, .int .i64 1]) ∧ W = w' := by
  by_cases c0 : n < 0
  · have c0b : decide (n < 0) = true := decide_eq_true c0
    go_enter Try.func8, Try.ntmps8
    go_wp2
    go_ret2
    exact ⟨rfl, rfl⟩
  · have c0b : decide (n < 0) = false := decide_eq_false c0
    have c1 : decide (1024 < n) = true := decide_eq_true (by omega)
    go_enter Try.func8, Try.ntmps8
    go_wp2
    go_ret2
    exact ⟨rfl, rfl⟩
end
/-! ### the spool of string -/
section
variable {W : World} {p c cap : Nat} {xs : List Value} {cl : Bool}
theorem madeS_calls (h : Sp 67 W p c cap xs cl) : Calls Try.prog 32 #[.pointer (some ⟨p, 0, none⟩)] W fun e w' => e = .returned (.bool true) ∧ W = w' := by
  have hc0 : W.cell? ⟨p, 0, none⟩ = some (.chan (some c)) := (blk_cell h.gb 0).trans rfl
  have hn := run_neq_chan_nil (P := Try.prog) W 65 (some c) Try.underlying65
  go_enter Try.func32, Try.ntmps32
  go_wp2
  go_ret
  exact ⟨rfl, rfl⟩
theorem openS_calls (h : Sp 67 W p c cap xs cl) : Calls Try.prog 31 #[.pointer (some ⟨p, 0, none⟩)] W fun e w' => e = .returned (.bool (!cl)) ∧ W = w' := by
  have hc0 : W.cell? ⟨p, 1, none⟩ = some (.bool cl) := (blk_cell h.gb 1).trans rfl
  go_enter Try.func31, Try.ntmps31
  go_wp2_with (go_at_call 32; go_must (refine (madeS_calls h).mono ?_; rintro e w2 ⟨rfl, rfl⟩))
  go_ret
  exact ⟨rfl, rfl⟩
theorem lenS_calls (h : Sp 67 W p c cap xs cl) : Calls Try.prog 18 #[.pointer (some ⟨p, 0, none⟩)] W fun e w' => e = .returned (.int .i64 (xs.length : Int)) ∧ W = w' := by
  have hc0 : W.cell? ⟨p, 0, none⟩ = some (.chan (some c)) := (blk_cell h.gb 0).trans rfl
  obtain ⟨s, r, hch⟩ := h.gc
  have hlen := fun ty => run_len_chan (P := Try.prog) 65 ty Try.underlying65 hch
  go_enter Try.func18, Try.ntmps18
  go_wp2_with (go_at_call 32; go_must (refine (madeS_calls h).mono ?_; rintro e w2 ⟨rfl, rfl⟩))
  go_ret
  exact ⟨rfl, rfl⟩
theorem putS_ok (v : Value) (h : Sp 67 W p c cap xs false) (hx : xs.length < cap) : Calls Try.prog 17 #[.pointer (some ⟨p, 0, none⟩), v] W fun e w' => e = .returned (.bool true) ∧ Sp 67 w' p c cap (xs ++ [v]) false ∧ Kept W w' (fun k => k = c) ∧ Below c W w' := by
  have hc0 : W.cell? ⟨p, 0, none⟩ = some (.chan (some c)) := (blk_cell h.gb 0).trans rfl
  obtain ⟨s, r, hch⟩ := h.gc
  have HF : Aside0 (Sp 67 (W.setChan c cap (xs.toArray.push v) false (s + 1) r false) p c cap (xs ++ [v]) false ∧ Kept W (W.setChan c cap (xs.toArray.push v) false (s + 1) r false) (fun k => k = c) ∧ Below c W (W.setChan c cap (xs.toArray.push v) false (s + 1) r false)) := by
    refine ⟨⟨?_, kept_chan _ _ _ _ _ _ _, below_chan _ _ _ _ _ _ _ (Nat.le_refl _)⟩⟩
    have := h.chan (xs' := xs ++ [v]) (s + 1) r (by simp; omega)
    simpa using this
  go_enter Try.func17, Try.ntmps17
  go_upto_region 5 with (go_at_call 31; go_must (refine (openS_calls h).mono ?_; rintro e w2 ⟨rfl, rfl⟩))
  refine wp_sel_put (c := c) (cap := cap) (buf := xs.toArray) (s := s) (r := r) (v := v) (z := (.string ⟨#[]⟩)) rfl (by simp [go_sem, execOp, scase, Act.eval]) hch (by simpa using hx) ?_
  generalize W.setChan c cap (xs.toArray.push v) false (s + 1) r false = w5 at HF ⊢
  go_wp2
  go_ret
  exact ⟨rfl, HF.out⟩
theorem putS_full (v : Value) (h : Sp 67 W p c cap xs false) (hx : xs.length = cap) : Calls Try.prog 17 #[.pointer (some ⟨p, 0, none⟩), v] W fun e w' => e = .returned (.bool false) ∧ W = w' := by
  have hc0 : W.cell? ⟨p, 0, none⟩ = some (.chan (some c)) := (blk_cell h.gb 0).trans rfl
  obtain ⟨s, r, hch⟩ := h.gc
  go_enter Try.func17, Try.ntmps17
  go_upto_region 5 with (go_at_call 31; go_must (refine (openS_calls h).mono ?_; rintro e w2 ⟨rfl, rfl⟩))
  refine wp_sel_full (c := c) (cap := cap) (buf := xs.toArray) (s := s) (r := r) (v := v) (z := (.string ⟨#[]⟩)) rfl (by simp [go_sem, execOp, scase, Act.eval]) hch (by simp; omega) ?_
  go_wp2
  go_ret
  exact ⟨rfl, rfl⟩
theorem putS_shut (v : Value) (h : Sp 67 W p c cap xs true) : Calls Try.prog 17 #[.pointer (some ⟨p, 0, none⟩), v] W fun e w' => e = .returned (.bool false) ∧ W = w' := by
  go_enter Try.func17, Try.ntmps17
  go_wp2_with (go_at_call 31; go_must (refine (openS_calls h).mono ?_; rintro e w2 ⟨rfl, rfl⟩))
  go_ret
  exact ⟨rfl, rfl⟩
theorem takeS_ok (v : Value) (h : Sp 67 W p c cap (v :: xs) cl) : Calls Try.prog 33 #[.pointer (some ⟨p, 0, none⟩)] W fun e w' => e = .returned (.tuple #[v, .bool true]) ∧ Sp 67 w' p c cap xs cl ∧ Kept W w' (fun k => k = c) ∧ Below c W w' := by
  have hc0 : W.cell? ⟨p, 0, none⟩ = some (.chan (some c)) := (blk_cell h.gb 0).trans rfl
  obtain ⟨s, r, hch⟩ := h.gc
  have HF : Aside0 (Sp 67 (W.setChan c cap ((v :: xs).toArray.extract 1 (v :: xs).toArray.size) cl s (r + 1) false) p c cap xs cl ∧ Kept W (W.setChan c cap ((v :: xs).toArray.extract 1 (v :: xs).toArray.size) cl s (r + 1) false) (fun k => k = c) ∧ Below c W (W.setChan c cap ((v :: xs).toArray.extract 1 (v :: xs).toArray.size) cl s (r + 1) false)) := by
    refine ⟨⟨?_, kept_chan _ _ _ _ _ _ _, below_chan _ _ _ _ _ _ _ (Nat.le_refl _)⟩⟩
    have h1 := h.hl
    have := h.chan (xs' := xs) s (r + 1) (by simp at h1; omega)
    have e : (v :: xs).toArray.extract 1 (v :: xs).toArray.size = xs.toArray := by simp
    rw [e]
    exact this
  go_enter Try.func33, Try.ntmps33
  go_upto_region 5 with (go_at_call 32; go_must (refine (madeS_calls h).mono ?_; rintro e w2 ⟨rfl, rfl⟩))
  refine wp_sel_take (c := c) (cap := cap) (buf := (v :: xs).toArray) (s := s) (r := r) (z := (.string ⟨#[]⟩)) rfl (by simp [go_sem, execOp, rcase, Act.eval]) hch (by simp) ?_
  generalize W.setChan c cap ((v :: xs).toArray.extract 1 (v :: xs).toArray.size) cl s (r + 1) false = w5 at HF ⊢
  go_wp2
  go_ret2
  exact ⟨rfl, HF.out⟩
theorem takeS_none (h : Sp 67 W p c cap [] cl) : Calls Try.prog 33 #[.pointer (some ⟨p, 0, none⟩)] W fun e w' => e = .returned (.tuple #[(.string ⟨#[]⟩), .bool false]) ∧ W = w' := by
  have hc0 : W.cell? ⟨p, 0, none⟩ = some (.chan (some c)) := (blk_cell h.gb 0).trans rfl
  obtain ⟨s, r, hch⟩ := h.gc
  cases cl with
  | false =>
    go_enter Try.func33, Try.ntmps33
    go_upto_region 5 with (go_at_call 32; go_must (refine (madeS_calls h).mono ?_; rintro e w2 ⟨rfl, rfl⟩))
    refine wp_sel_none (c := c) (cap := cap) (s := s) (r := r) (z := (.string ⟨#[]⟩)) rfl (by simp [go_sem, execOp, rcase, Act.eval]) hch ?_
    go_wp2
    go_ret2
    exact ⟨rfl, rfl⟩
  | true =>
    go_enter Try.func33, Try.ntmps33
    go_upto_region 5 with (go_at_call 32; go_must (refine (madeS_calls h).mono ?_; rintro e w2 ⟨rfl, rfl⟩))
    refine wp_sel_shut (c := c) (cap := cap) (s := s) (r := r) (z := (.string ⟨#[]⟩)) rfl (by simp [go_sem, execOp, rcase, Act.eval]) hch ?_
    go_wp2
    go_ret2
    exact ⟨rfl, rfl⟩
theorem mkS (w : World) (n : Nat) (h1 : n ≤ 1024) : (Instr.makeChan 65 (.int .i64 (n : Int))).run Try.prog w = .ok (.chan (some w.heap.size)) (w.alloc (.chan n #[] false 0 0 false)) := by
  obtain ⟨i, hi, hb⟩ := bytesS
  simpa using run_makeChan (P := Try.prog) (w := w) Try.underlying65 hi .i64 n (by omega) (by rw [hb]; omega)
theorem newS_ok (n : Nat) (h1 : n ≤ 1024) : Calls Try.prog 15 #[.int .i64 (n : Int)] W fun e w' => ∃ p c, e = .returned (.tuple #[.pointer (some ⟨p, 0, none⟩), .int .i64 0]) ∧ Sp 67 w' p c n [] false ∧ W.heap.size ≤ p ∧ W.heap.size ≤ c ∧ Below W.heap.size W w' := by
  have hmk := mkS W n h1
  have c0 : decide ((n : Int) < 0) = false := decide_eq_false (by omega)
  have c1 : decide (1024 < (n : Int)) = false := decide_eq_false (by omega)
  have HF : Aside0 (Sp 67 ((W.alloc (.chan n #[] false 0 0 false)).alloc (.cells #[.chan (some W.heap.size), .bool false] 67)) (W.heap.size + 1) W.heap.size n [] false ∧ Below W.heap.size W ((W.alloc (.chan n #[] false 0 0 false)).alloc (.cells #[.chan (some W.heap.size), .bool false] 67))) := by
    have hb := below_alloc (Below.refl W.heap.size W) (.chan n #[] false 0 0 false)
    have hb2 := below_alloc hb (.cells #[.chan (some W.heap.size), .bool false] 67)
    refine ⟨⟨?_, ⟨0, 0, ?_⟩, Nat.zero_le _, by omega⟩, hb2⟩
    · have := blk_new (W.alloc (.chan n #[] false 0 0 false)) (.cells #[.chan (some W.heap.size), .bool false] 67)
      simpa using this
    · exact blk_alloc (blk_new W _) _
  clear h1
  go_enter Try.func15, Try.ntmps15
  go_wp2
  go_ret2
  exact ⟨_, _, rfl, HF.out.1, Nat.le_succ _, Nat.le_refl _, HF.out.2⟩
theorem newS_no (n : Int) (h : n < 0 ∨ 1024 < n) : Calls Try.prog 15 #[.int .i64 n] W fun e w' => e = .returned (.tuple #[.pointer none, .int .i64 1]) ∧ W = w' := by
  by_cases c0 : n < 0
  · have c0b : decide (n < 0) = true := decide_eq_true c0
    go_enter Try.func15, Try.ntmps15
    go_wp2
    go_ret2
    exact ⟨rfl, rfl⟩
  · have c0b : decide (n < 0) = false := decide_eq_false c0
    have c1 : decide (1024 < n) = true := decide_eq_true (by omega)
    go_enter Try.func15, Try.ntmps15
    go_wp2
    go_ret2
    exact ⟨rfl, rfl⟩
end
section
variable {W : World} {p c cap : Nat} {xs : List Value} {cl : Bool}
theorem roomI_calls (h : Sp 62 W p c cap xs cl) : Calls Try.prog 29 #[.pointer (some ⟨p, 0, none⟩)] W fun e w' => e = .returned (.int .i64 (cap : Int)) ∧ W = w' := by
  have hc0 : W.cell? ⟨p, 0, none⟩ = some (.chan (some c)) := (blk_cell h.gb 0).trans rfl
  obtain ⟨s, r, hch⟩ := h.gc
  have hlen := fun ty => run_cap_chan (P := Try.prog) 60 ty Try.underlying60 hch
  go_enter Try.func29, Try.ntmps29
  go_wp2_with (go_at_call 30; go_must (refine (madeI_calls h).mono ?_; rintro e w2 ⟨rfl, rfl⟩))
  go_ret
  exact ⟨rfl, rfl⟩
theorem closeI_no (h : Sp 62 W p c cap xs true) : Calls Try.prog 10 #[.pointer (some ⟨p, 0, none⟩)] W fun e w' => e = .returned (.bool false) ∧ W = w' := by
  go_enter Try.func10, Try.ntmps10
  go_wp2_with (go_at_call 11; go_must (refine (openI_calls h).mono ?_; rintro e w2 ⟨rfl, rfl⟩))
  go_ret
  exact ⟨rfl, rfl⟩
theorem closeI_ok (h : Sp 62 W p c cap xs false) : Calls Try.prog 10 #[.pointer (some ⟨p, 0, none⟩)] W fun e w' => e = .returned (.bool true) ∧ Sp 62 w' p c cap xs true ∧ Kept W w' (fun k => k = p ∨ k = c) ∧ (∀ B, B ≤ p → B ≤ c → Below B W w') := by
  have hc1 : W.cell? ⟨p, 1, none⟩ = some (.bool false) := (blk_cell h.gb 1).trans rfl
  have hf1 : W.frozen? ⟨p, 1, none⟩ = false := blk_frozen h.gb 1
  have h2 : Aside0 ((W.setCell ⟨p, 1, none⟩ (.bool true)).heap[p]? = some (.cells #[.chan (some c), .bool true] 62 (0, 0))) := ⟨blk_put h.gb 1 _ rfl⟩
  obtain ⟨s, r, hch⟩ := h.gc
  have h3 : Aside0 ((W.setCell ⟨p, 1, none⟩ (.bool true)).heap[c]? = some (.chan cap xs.toArray false s r false)) := ⟨(Below.heap_setCell _ _ _ _ h.ne.symm).trans hch⟩
  have HK : Aside0 (Kept W (W.setCell ⟨p, 1, none⟩ (.bool true)) (fun k => k = p ∨ k = c)) := ⟨(Kept.refl W _).setCell (Or.inl (Or.inl rfl)) _⟩
  have HB : Aside0 (∀ B, B ≤ p → B ≤ c → Below B W (W.setCell ⟨p, 1, none⟩ (.bool true))) := ⟨fun B h1 _ => (Below.refl B W).setCell h1 _⟩
  have HO := Aside0.mk h
  clear hch
  go_enter Try.func10, Try.ntmps10
  go_upto_region 4 with (go_at_call 11; go_must (refine (openI_calls h).mono ?_; rintro e w2 ⟨rfl, rfl⟩))
  clear h hc1 hf1
  generalize W.setCell ⟨p, 1, none⟩ (.bool true) = w5 at h2 h3 HK HB ⊢
  have hc0 : w5.cell? ⟨p, 0, none⟩ = some (.chan (some c)) := (blk_cell h2.out 0).trans rfl
  have hcl := fun ats ty => run_close_open (P := Try.prog) (w := w5) ats ty h3.out
  go_wp2
  go_ret
  have k1 := kept_chan w5 c cap xs.toArray true s r
  refine ⟨rfl, (⟨(chan_other _ _ _ _ _ _ _ _ _ HO.out.ne.symm).trans h2.out, ⟨s, r, heap_setChan _ _ _ _ _ _ _ _ (blk_lt h3.out)⟩, HO.out.hl, HO.out.hc⟩ : Sp 62 (w5.setChan c cap xs.toArray true s r false) p c cap xs true), HK.out.then_ k1 (fun k hk => Or.inl (Or.inr hk)), fun B h1 h2 => (HB.out B h1 h2).trans (below_chan w5 c cap xs.toArray true s r h2)⟩
end
end Go.Proofs.Ytkohkcnajddcoaa.QN
