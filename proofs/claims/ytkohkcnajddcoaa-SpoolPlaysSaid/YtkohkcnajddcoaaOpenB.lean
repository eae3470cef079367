/- How an argument that is a slice of calls is opened: it reads as a list, whatever it holds; no condition. -/
import Derived.Test.YtkohkcnajddcoaaPlays
import Derived.Test.YtkohkcnajddcoaaOpen
namespace Go.Proofs.Ytkohkcnajddcoaa.QN
open Go.RowKit Go.ChangeShapes Go.WideShapes Go.Proofs.YtkohkcnajddcoaaW.PrintWords Go.Proofs.YtkohkcnajddcoaaW.PrintLast Go.Proofs.YtkohkcnajddcoaaW.PrintMore
set_option linter.unusedVariables false
theorem opens_45 {H : Type} {enc : TypeId × Value → H} {w : World} {base : Nat} {spare : Nat → Bool} {held : Bool} : Opens enc Try.prog w base spare held 45 k45 (fun x => (Lit.int .i64 x.f0).wf = true ∧ (Lit.int .i64 x.f1).wf = true) := by
  intro fuel cs x h
  obtain ⟨xs, n, _, _, hlen, hxl, hf⟩ := DataW.trod_struct Try.underlying45 h
  have hl : Try.prog.cellsOf 45 = 2 := by kernel_rfl
  rw [hl] at hlen
  match xs, hxl, cs, hlen with
  | [y0, y1], _, [v0, v1], _ =>
    have c0 : Try.prog.cellsOf 3 = 1 := by kernel_rfl
    have g0 := hf 0 _ rfl
    have g1 := hf 1 _ rfl
    simp [c0] at g0 g1
    obtain ⟨a0, k0, w0⟩ := opens_int Try.underlying3 _ _ _ g0
    obtain ⟨a1, k1, w1⟩ := opens_int Try.underlying3 _ _ _ g1
    exact ⟨⟨a0, a1⟩, ⟨[v0], [v1], rfl, k0, k1⟩, w0, w1⟩
end Go.Proofs.Ytkohkcnajddcoaa.QN
