/- The fixed calls of the spool's laws come out as they must; a spool with the world it was made in. -/
import Derived.Test.YtkohkcnajddcoaaSp
import Derived.Test.YtkohkcnajddcoaaQN1
import Derived.Deep.DeepMust
namespace Go.Proofs.Ytkohkcnajddcoaa.QN
open Go.RowKit Go.Conc Go.Proofs.YtkohkcnajddcoaaW.PrintWords Go.Proofs.YtkohkcnajddcoaaW.PrintLast Go.Proofs.YtkohkcnajddcoaaW.PrintMore
set_option linter.unusedVariables false
set_option linter.unusedSimpArgs false

theorem below_le {B B' : Nat} {a b : World} (h : Below B a b) (hle : B' ≤ B) : Below B' a b := ⟨h.os, h.tape, h.output, h.size, fun k hk => h.block k (by omega)⟩
/-- A spool made since w0. -/
structure Sw (T : TypeId) (w0 W : World) (p c cap : Nat) (xs : List Value) (cl : Bool) : Prop where
  sp : Sp T W p c cap xs cl
  bl : Below w0.heap.size w0 W
  pl : w0.heap.size ≤ p
  gl : w0.heap.size ≤ c
section
variable {T : TypeId} {w0 W W2 : World} {p c cap : Nat} {xs xs' : List Value} {cl : Bool} {S : Nat → Prop}
theorem Sw.kept (h : Sw T w0 W p c cap xs cl) (hk : Kept W W2 S) (hp : ¬ S p) (hc : ¬ S c) (hb : Below w0.heap.size w0 W2) : Sw T w0 W2 p c cap xs cl := ⟨h.sp.kept hk hp hc, hb, h.pl, h.gl⟩
theorem Sw.below (h : Sw T w0 W p c cap xs cl) (hb : Below W.heap.size W W2) : Sw T w0 W2 p c cap xs cl := ⟨h.sp.below hb, below_then h.bl h.bl.size hb, h.pl, h.gl⟩
end
section
variable {w0 W : World} {p c cap : Nat} {xs : List Value} {cl : Bool}
theorem swI_put (v : Value) (h : Sw 62 w0 W p c cap xs false) (hx : xs.length < cap) : Calls Try.prog 9 #[.pointer (some ⟨p, 0, none⟩), v] W fun e w' => e = .returned (.bool true) ∧ Sw 62 w0 w' p c cap (xs ++ [v]) false ∧ Kept W w' (fun k => k = c) :=
  (putI_ok v h.sp hx).mono (fun e w' ⟨h1, h2, h3, h4⟩ => ⟨h1, ⟨h2, h.bl.trans (below_le h4 h.gl), h.pl, h.gl⟩, h3⟩)
theorem swI_take (v : Value) (h : Sw 62 w0 W p c cap (v :: xs) cl) : Calls Try.prog 13 #[.pointer (some ⟨p, 0, none⟩)] W fun e w' => e = .returned (.tuple #[v, .bool true]) ∧ Sw 62 w0 w' p c cap xs cl ∧ Kept W w' (fun k => k = c) :=
  (takeI_ok v h.sp).mono (fun e w' ⟨h1, h2, h3, h4⟩ => ⟨h1, ⟨h2, h.bl.trans (below_le h4 h.gl), h.pl, h.gl⟩, h3⟩)
theorem swI_new (n : Nat) (hn : n ≤ 1024) (hb : Below w0.heap.size w0 W) : Calls Try.prog 8 #[.int .i64 (n : Int)] W fun e w' => ∃ p c, e = .returned (.tuple #[.pointer (some ⟨p, 0, none⟩), .int .i64 0]) ∧ Sw 62 w0 w' p c n [] false ∧ W.heap.size ≤ p ∧ W.heap.size ≤ c ∧ Below W.heap.size W w' :=
  (newI_ok n hn).mono (fun e w' ⟨p, c, h1, h2, h3, h4, h5⟩ => ⟨p, c, h1, ⟨h2, below_then hb hb.size h5, by have := hb.size; omega, by have := hb.size; omega⟩, h3, h4, h5⟩)
end
section
variable {w0 W : World} {p c cap : Nat} {xs : List Value} {cl : Bool}
theorem swS_put (v : Value) (h : Sw 67 w0 W p c cap xs false) (hx : xs.length < cap) : Calls Try.prog 17 #[.pointer (some ⟨p, 0, none⟩), v] W fun e w' => e = .returned (.bool true) ∧ Sw 67 w0 w' p c cap (xs ++ [v]) false ∧ Kept W w' (fun k => k = c) :=
  (putS_ok v h.sp hx).mono (fun e w' ⟨h1, h2, h3, h4⟩ => ⟨h1, ⟨h2, h.bl.trans (below_le h4 h.gl), h.pl, h.gl⟩, h3⟩)
theorem swS_take (v : Value) (h : Sw 67 w0 W p c cap (v :: xs) cl) : Calls Try.prog 33 #[.pointer (some ⟨p, 0, none⟩)] W fun e w' => e = .returned (.tuple #[v, .bool true]) ∧ Sw 67 w0 w' p c cap xs cl ∧ Kept W w' (fun k => k = c) :=
  (takeS_ok v h.sp).mono (fun e w' ⟨h1, h2, h3, h4⟩ => ⟨h1, ⟨h2, h.bl.trans (below_le h4 h.gl), h.pl, h.gl⟩, h3⟩)
theorem swS_new (n : Nat) (hn : n ≤ 1024) (hb : Below w0.heap.size w0 W) : Calls Try.prog 15 #[.int .i64 (n : Int)] W fun e w' => ∃ p c, e = .returned (.tuple #[.pointer (some ⟨p, 0, none⟩), .int .i64 0]) ∧ Sw 67 w0 w' p c n [] false ∧ W.heap.size ≤ p ∧ W.heap.size ≤ c ∧ Below W.heap.size W w' :=
  (newS_ok n hn).mono (fun e w' ⟨p, c, h1, h2, h3, h4, h5⟩ => ⟨p, c, h1, ⟨h2, below_then hb hb.size h5, by have := hb.size; omega, by have := hb.size; omega⟩, h3, h4, h5⟩)
end
theorem swI_close {w0 W : World} {p c cap : Nat} {xs : List Value} (h : Sw 62 w0 W p c cap xs false) : Calls Try.prog 10 #[.pointer (some ⟨p, 0, none⟩)] W fun e w' => e = .returned (.bool true) ∧ Sw 62 w0 w' p c cap xs true ∧ Kept W w' (fun k => k = p ∨ k = c) :=
  (closeI_ok h.sp).mono (fun e w' ⟨h1, h2, h3, h4⟩ => ⟨h1, ⟨h2, h.bl.trans (h4 _ h.pl h.gl), h.pl, h.gl⟩, h3⟩)
set_option maxHeartbeats 4000000 in
set_option maxRecDepth 100000 in
theorem known_calls (w : World) : Calls Try.prog 14 #[] w fun e w' => e = .returned (.bool true) ∧ Below w.heap.size w w' := by
  go_enter Try.func14, Try.ntmps14
  go_upto_region 4 with (go_at_call 8; go_must (refine (swI_new (w0 := w) 2 (by decide) (Below.refl _ _)).mono ?_; rintro e w1 ⟨p, c, rfl, h1, -, -, -⟩; have HS0 := Aside0.mk h1; clear h1))
  go_upto_region 5 with (first | (go_at_call 9; refine (swI_put (.int .i64 1) HS0.out (by simp)).mono ?_; rintro e w2 ⟨rfl, h2, -⟩; have HS1 := Aside0.mk h2; clear h2 HS0) | (go_at_call 9; refine (swI_put (.int .i64 2) HS1.out (by simp)).mono ?_; rintro e w3 ⟨rfl, h2, -⟩; have HS2 := Aside0.mk h2; clear h2 HS1) | (go_at_call 9; refine (putI_full (.int .i64 3) HS2.out.sp (by simp)).mono ?_; rintro e w4 ⟨rfl, rfl⟩))
  go_upto_region 6 with (go_at_call 10; go_must (refine (swI_close HS2.out).mono ?_; rintro e w5 ⟨rfl, h2, -⟩; have HS3 := Aside0.mk h2; clear h2 HS2))
  go_upto_region 9 with (first | (go_at_call 13; refine (swI_take (.int .i64 1) (xs := [.int .i64 2]) HS3.out).mono ?_; rintro e w6 ⟨rfl, h2, -⟩; have HS4 := Aside0.mk h2; clear h2 HS3) | (go_at_call 13; refine (swI_take (.int .i64 2) (xs := []) HS4.out).mono ?_; rintro e w7 ⟨rfl, h2, -⟩; have HS5 := Aside0.mk h2; clear h2 HS4) | (go_at_call 13; refine (takeI_none HS5.out.sp).mono ?_; rintro e w8 ⟨rfl, rfl⟩))
  go_wp2
  go_ret
  exact ⟨rfl, HS5.out.bl⟩
end Go.Proofs.Ytkohkcnajddcoaa.QN
