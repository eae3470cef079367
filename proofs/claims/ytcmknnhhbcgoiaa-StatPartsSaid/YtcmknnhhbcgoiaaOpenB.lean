/- How slices of mutants and of verdicts are opened: they read as lists, their own slices left shut; no condition. -/
import Derived.Test.YtcmknnhhbcgoiaaOpen
namespace Go.Proofs.Ytcmknnhhbcgoiaa.QN
open Go.RowKit Go.ChangeShapes Go.WideShapes Go.Proofs.YtcmknnhhbcgoiaaW.PrintWords Go.Proofs.YtcmknnhhbcgoiaaW.PrintLast Go.Proofs.YtcmknnhhbcgoiaaW.PrintMore
set_option linter.unusedVariables false
set_option linter.unusedSimpArgs false
section
variable {H : Type} {enc : TypeId × Value → H} {P : Program} {w : World} {base : Nat} {spare : Nat → Bool} {held : Bool}
theorem opens_sl {t e : TypeId} (ht : P.underlying t = some (.slice e)) : Opens enc P w base spare held t ksl (fun _ => True) := by
  intro fuel cs x h
  rcases Deep.open_slice ht h with ⟨rfl, _⟩ | ⟨a, len, cap, m, n, D, Pl, rfl, _⟩
  · exact ⟨(none, 0, 0), rfl, trivial⟩
  · exact ⟨(some a, len, cap), rfl, trivial⟩
end
variable {H : Type} {enc : TypeId × Value → H} {w : World} {base : Nat} {spare : Nat → Bool} {held : Bool}
def kP3 : Kd (Sl × Sl × Sl) := Kd.pair ksl (Kd.pair ksl ksl)
set_option maxRecDepth 100000 in
theorem opens_65 : Opens enc Try.prog w base spare held 65 kP3 (fun _ => True) := by
  intro fuel cs x h
  obtain ⟨xs, n, _, _, hlen, hxl, hf⟩ := DataW.trod_struct Try.underlying65 h
  have hl : Try.prog.cellsOf 65 = 3 := by kernel_rfl
  rw [hl] at hlen
  match xs, hxl, cs, hlen with
  | [y0, y1, y2], _, [v0, v1, v2], _ =>
    have c1 : Try.prog.cellsOf 61 = 1 := by kernel_rfl
    have c2 : Try.prog.cellsOf 62 = 1 := by kernel_rfl
    have c3 : Try.prog.cellsOf 63 = 1 := by kernel_rfl
    have g0 := hf 0 _ rfl
    have g1 := hf 1 _ rfl
    have g2 := hf 2 _ rfl
    simp [c1, c2, c3] at g0 g1 g2
    obtain ⟨a0, k0, _⟩ := opens_sl Try.underlying61 _ _ _ g0
    obtain ⟨a1, k1, _⟩ := opens_sl Try.underlying62 _ _ _ g1
    obtain ⟨a2, k2, _⟩ := opens_sl Try.underlying63 _ _ _ g2
    exact ⟨⟨a0, a1, a2⟩, ⟨[v0], [v1, v2], rfl, k0, ⟨[v1], [v2], rfl, k1, k2⟩⟩, trivial⟩
set_option maxRecDepth 100000 in
theorem opens_67 : Opens enc Try.prog w base spare held 67 k67 (fun _ => True) := by
  intro fuel cs x h
  obtain ⟨xs, n, _, _, hlen, hxl, hf⟩ := DataW.trod_struct Try.underlying67 h
  have hl : Try.prog.cellsOf 67 = 5 := by kernel_rfl
  rw [hl] at hlen
  match xs, hxl, cs, hlen with
  | [y0, y1, y2], _, [v0, v1, v2, v3, v4], _ =>
    have c0 : Try.prog.cellsOf 3 = 1 := by kernel_rfl
    have c2 : Try.prog.cellsOf 65 = 3 := by kernel_rfl
    have g0 := hf 0 _ rfl
    have g1 := hf 1 _ rfl
    have g2 := hf 2 _ rfl
    simp [c0, c2] at g0 g1 g2
    obtain ⟨a0, k0, _⟩ := opens_int Try.underlying3 _ _ _ g0
    obtain ⟨a1, k1, _⟩ := opens_int Try.underlying3 _ _ _ g1
    obtain ⟨⟨b0, b1, b2⟩, k2, _⟩ := opens_65 _ _ _ g2
    exact ⟨⟨a0, a1, b0, b1, b2⟩, ⟨[v0], [v1, v2, v3, v4], rfl, k0, ⟨[v1], [v2, v3, v4], rfl, k1, k2⟩⟩, trivial⟩
def kT : Kd (ByteArray × Int × Sl) := Kd.pair Kd.string (Kd.pair (Kd.int .i64) ksl)
set_option maxRecDepth 100000 in
theorem opens_51 : Opens enc Try.prog w base spare held 51 kT (fun _ => True) := by
  intro fuel cs x h
  obtain ⟨xs, n, _, _, hlen, hxl, hf⟩ := DataW.trod_struct Try.underlying51 h
  have hl : Try.prog.cellsOf 51 = 3 := by kernel_rfl
  rw [hl] at hlen
  match xs, hxl, cs, hlen with
  | [y0, y1, y2], _, [v0, v1, v2], _ =>
    have c1 : Try.prog.cellsOf 9 = 1 := by kernel_rfl
    have c2 : Try.prog.cellsOf 2 = 1 := by kernel_rfl
    have c3 : Try.prog.cellsOf 49 = 1 := by kernel_rfl
    have g0 := hf 0 _ rfl
    have g1 := hf 1 _ rfl
    have g2 := hf 2 _ rfl
    simp [c1, c2, c3] at g0 g1 g2
    obtain ⟨a0, k0, _⟩ := opens_string Try.underlying9 _ _ _ g0
    obtain ⟨a1, k1, _⟩ := opens_int Try.underlying2 _ _ _ g1
    obtain ⟨a2, k2, _⟩ := opens_sl Try.underlying49 _ _ _ g2
    exact ⟨⟨a0, a1, a2⟩, ⟨[v0], [v1, v2], rfl, k0, ⟨[v1], [v2], rfl, k1, k2⟩⟩, trivial⟩
def kO : Kd (Int × (ByteArray × Int × Sl) × Int) := Kd.pair (Kd.int .i64) (Kd.pair kT (Kd.int .i64))
set_option maxRecDepth 100000 in
theorem opens_53 : Opens enc Try.prog w base spare held 53 kO (fun _ => True) := by
  intro fuel cs x h
  obtain ⟨xs, n, _, _, hlen, hxl, hf⟩ := DataW.trod_struct Try.underlying53 h
  have hl : Try.prog.cellsOf 53 = 5 := by kernel_rfl
  rw [hl] at hlen
  match xs, hxl, cs, hlen with
  | [y0, y1, y2], _, [v0, v1, v2, v3, v4], _ =>
    have c0 : Try.prog.cellsOf 3 = 1 := by kernel_rfl
    have c2 : Try.prog.cellsOf 51 = 3 := by kernel_rfl
    have g0 := hf 0 _ rfl
    have g1 := hf 1 _ rfl
    have g2 := hf 2 _ rfl
    simp [c0, c2] at g0 g1 g2
    obtain ⟨a0, k0, _⟩ := opens_int Try.underlying3 _ _ _ g0
    obtain ⟨a1, k1, _⟩ := opens_51 _ _ _ g1
    obtain ⟨a2, k2, _⟩ := opens_int Try.underlying3 _ _ _ g2
    exact ⟨⟨a0, a1, a2⟩, ⟨[v0], [v1, v2, v3, v4], rfl, k0, ⟨[v1, v2, v3], [v4], rfl, k1, k2⟩⟩, trivial⟩
set_option maxRecDepth 100000 in
theorem opens_V : Opens enc Try.prog w base spare held 55 kV (fun _ => True) := by
  intro fuel cs x h
  obtain ⟨xs, n, _, _, hlen, hxl, hf⟩ := DataW.trod_struct Try.underlying55 h
  have hl : Try.prog.cellsOf 55 = 8 := by kernel_rfl
  rw [hl] at hlen
  match xs, hxl, cs, hlen with
  | [y0, y1, y2, y3], _, [v0, v1, v2, v3, v4, v5, v6, v7], _ =>
    have c0 : Try.prog.cellsOf 3 = 1 := by kernel_rfl
    have c2 : Try.prog.cellsOf 53 = 5 := by kernel_rfl
    have g0 := hf 0 _ rfl
    have g1 := hf 1 _ rfl
    have g2 := hf 2 _ rfl
    have g3 := hf 3 _ rfl
    simp [c0, c2] at g0 g1 g2 g3
    obtain ⟨a0, k0, _⟩ := opens_int Try.underlying3 _ _ _ g0
    obtain ⟨a1, k1, _⟩ := opens_int Try.underlying3 _ _ _ g1
    obtain ⟨a2, k2, _⟩ := opens_int Try.underlying3 _ _ _ g2
    obtain ⟨⟨a3, ⟨b0, b1, b2⟩, a4⟩, k3, _⟩ := opens_53 _ _ _ g3
    obtain ⟨_, _, e1, q1, ⟨_, _, e2, ⟨_, _, e3, q2, ⟨_, _, e4, q3, q4⟩⟩, q5⟩⟩ := k3
    refine ⟨⟨a0, a1, a2, a3, b0, b1, b2, a4⟩, ⟨[v0], _, rfl, k0, ⟨[v1], _, rfl, k1, ⟨[v2], _, rfl, k2, ?_⟩⟩⟩, trivial⟩
    rw [e1, e2, e3, e4]
    exact ⟨_, _, rfl, q1, ⟨_, _, by simp, q2, ⟨_, _, rfl, q3, ⟨_, _, rfl, q4, q5⟩⟩⟩⟩
end Go.Proofs.Ytcmknnhhbcgoiaa.QN
