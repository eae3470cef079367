/- How an argument that is a slice of structs is opened: it reads as a list, whatever it holds; no condition. -/
import Derived.Test.YtmiepbnjocojhaaQN0
import Derived.Deep.Slices
namespace Go.Proofs.Ytmiepbnjocojhaa.QN
open Go.RowKit Go.ChangeShapes Go.WideShapes Go.Proofs.YtmiepbnjocojhaaW.PrintWords Go.Proofs.YtmiepbnjocojhaaW.PrintLast Go.Proofs.YtmiepbnjocojhaaW.PrintMore
set_option linter.unusedVariables false
/-- Whatever reads by the type is a value of the kind. -/
def Opens {H : Type} (enc : TypeId × Value → H) (P : Program) (w : World) (base : Nat) (spare : Nat → Bool) (held : Bool) {α : Type} (t : TypeId) (d : Kd α) (wf : α → Prop) : Prop :=
  ∀ (fuel : Nat) (cs : List Value) (x : DataW H × List MemPlace), DataW.trod enc P w base spare held fuel t cs = some x → ∃ p, d.K w p cs ∧ wf p
section
variable {H : Type} {enc : TypeId × Value → H} {P : Program} {w : World} {base : Nat} {spare : Nat → Bool} {held : Bool} {α : Type}
theorem opens_int {t : TypeId} {k : IntKind} (ht : P.underlying t = some (.int k)) : Opens enc P w base spare held t (Kd.int k) (fun n => (Lit.int k n).wf = true) := by
  intro fuel cs x h
  obtain ⟨n, rfl, _, hw⟩ := DataW.trod_int ht h
  exact ⟨n, rfl, hw⟩
theorem opens_bool {t : TypeId} (ht : P.underlying t = some .bool) : Opens enc P w base spare held t Kd.bool (fun _ => True) := by
  intro fuel cs x h
  obtain ⟨n, rfl, _⟩ := DataW.trod_bool ht h
  exact ⟨n, rfl, trivial⟩
theorem opens_string {t : TypeId} (ht : P.underlying t = some .string) : Opens enc P w base spare held t Kd.string (fun s => s.size ≤ maxLen) := by
  intro fuel cs x h
  obtain ⟨n, rfl, _, hw⟩ := DataW.trod_string ht h
  exact ⟨n, rfl, hw⟩
theorem open_row {t e : TypeId} {d : Kd α} {wf : α → Prop} {fuel : Nat} {cs : List Value} {x : DataW H × List MemPlace} (ht : P.underlying t = some (.slice e)) (he : Opens enc P w base spare held e d wf) (hsz : P.cellsOf e = d.sz)
    (h : DataW.trod enc P w base spare held fuel t cs = some x) : ∃ (A : Option Addr) (l : List α) (c : Nat), cs = [.slice A l.length c] ∧ l.length ≤ c ∧ c ≤ maxLen ∧ d.C w A l.length l ∧ ∀ p ∈ l, wf p := by
  rcases Deep.open_slice ht h with ⟨rfl, _⟩ | ⟨a, len, cap, m, n, D, Pl, rfl, hb, hl, hm, hmm, hxx, hx⟩
  · exact ⟨none, [], 0, rfl, Nat.le_refl _, Nat.zero_le _, ⟨rfl, by simp, fun h => absurd h (by simp)⟩, by simp⟩
  have hlm : len ≤ m := by rw [hmm]; split <;> omega
  have each : ∀ i, i < len → ∃ p : α, ∃ cs', w.cells? base (a.add (i * P.cellsOf e)) (P.cellsOf e) = some cs' ∧ d.K w p cs' ∧ wf p := by
    intro i hi
    obtain ⟨cs', h1, h2⟩ := hx i (by omega)
    obtain ⟨p, hp, hw⟩ := he _ _ _ h2
    exact ⟨p, cs', h1, hp, hw⟩
  have fin : ∃ l : List α, l.length = len ∧ ∀ i p, l[i]? = some p → ∃ cs', w.cells? base (a.add (i * P.cellsOf e)) (P.cellsOf e) = some cs' ∧ d.K w p cs' ∧ wf p := by
    clear hl hm hmm hlm hx h hxx
    induction len with
    | zero => exact ⟨[], rfl, fun i p hp => by simp at hp⟩
    | succ n ih =>
      obtain ⟨l, hll, hlp⟩ := ih (fun i hi => each i (by omega))
      obtain ⟨p, hp⟩ := each n (by omega)
      refine ⟨l ++ [p], by simp [hll], fun i q hq => ?_⟩
      rcases Nat.lt_or_ge i l.length with hi | hi
      · rw [List.getElem?_append_left hi] at hq; exact hlp i q hq
      · rw [List.getElem?_append_right hi] at hq
        have : i - l.length = 0 := by
          by_cases h0 : i - l.length = 0
          · exact h0
          · rw [List.getElem?_eq_none (by simp; omega)] at hq; simp at hq
        rw [this] at hq
        simp at hq; subst hq
        have : i = n := by omega
        subst this
        exact hp
  obtain ⟨l, hll, hlp⟩ := fin
  subst hll
  refine ⟨some a, l, cap, rfl, hl, hm, ⟨rfl, by unfold maxLen at hm; omega, fun _ => ⟨a, rfl, fun j p hj => ?_⟩⟩, fun p hp => ?_⟩
  · obtain ⟨cs', h1, h2, _⟩ := hlp j p hj
    obtain ⟨_, hlen, hcell⟩ := World.cells?_some h1
    refine ⟨cs', by rw [hlen, hsz], h2, fun i u hu => ?_⟩
    have hi : i < cs'.length := (List.getElem?_eq_some_iff.1 hu).1
    have := hcell i (by omega)
    rw [Deep.add_add, hsz, hu] at this
    exact this
  · obtain ⟨i, hi⟩ := List.getElem?_of_mem hp
    obtain ⟨_, _, _, hw⟩ := hlp i p hi
    exact hw
theorem opens_slice {t e : TypeId} {d : Kd α} {wf : α → Prop} (ht : P.underlying t = some (.slice e)) (he : Opens enc P w base spare held e d wf) (hsz : P.cellsOf e = d.sz) :
    Opens enc P w base spare held t (Kd.slice e d) (fun l => ∀ p ∈ l, wf p) := by
  intro fuel cs x h
  obtain ⟨A, l, c, rfl, hc, _, hC, hw⟩ := open_row ht he hsz h
  exact ⟨l, ⟨A, c, rfl, hc, hC⟩, hw⟩
end
theorem opens_34 {H : Type} {enc : TypeId × Value → H} {w : World} {base : Nat} {spare : Nat → Bool} {held : Bool} : Opens enc Try.prog w base spare held 34 k34 (fun x => (Lit.int .i64 x.f0).wf = true ∧ (Lit.int .i64 x.f1).wf = true) := by
  intro fuel cs x h
  obtain ⟨xs, n, _, _, hlen, hxl, hf⟩ := DataW.trod_struct Try.underlying34 h
  have hl : Try.prog.cellsOf 34 = 2 := by kernel_rfl
  rw [hl] at hlen
  match xs, hxl, cs, hlen with
  | [y0, y1], _, [v0, v1], _ =>
    have c0 : Try.prog.cellsOf 3 = 1 := by kernel_rfl
    have g0 := hf 0 _ rfl
    have g1 := hf 1 _ rfl
    simp [c0] at g0 g1
    obtain ⟨a0, k0, w0⟩ := opens_int Try.underlying3 _ _ _ g0
    obtain ⟨a1, k1, w1⟩ := opens_int Try.underlying3 _ _ _ g1
    exact ⟨⟨a0, a1⟩, ⟨[v0], [v1], rfl, k0, k1⟩, w0, w1⟩
theorem opens_36 {H : Type} {enc : TypeId × Value → H} {w : World} {base : Nat} {spare : Nat → Bool} {held : Bool} : Opens enc Try.prog w base spare held 36 k36 (fun x => (Lit.int .i64 x.f1).wf = true ∧ (Lit.int .i64 x.f2).wf = true) := by
  intro fuel cs x h
  obtain ⟨xs, n, _, _, hlen, hxl, hf⟩ := DataW.trod_struct Try.underlying36 h
  have hl : Try.prog.cellsOf 36 = 5 := by kernel_rfl
  rw [hl] at hlen
  match xs, hxl, cs, hlen with
  | [y0, y1, y2, y3], _, [v0, v1, v2, v3, v4], _ =>
    have c0 : Try.prog.cellsOf 3 = 1 := by kernel_rfl
    have c1 : Try.prog.cellsOf 9 = 1 := by kernel_rfl
    have c2 : Try.prog.cellsOf 34 = 2 := by kernel_rfl
    have g0 := hf 0 _ rfl
    have g1 := hf 1 _ rfl
    have g2 := hf 2 _ rfl
    have g3 := hf 3 _ rfl
    simp [c0, c1, c2] at g0 g1 g2 g3
    obtain ⟨a0, k0, w0⟩ := opens_string Try.underlying9 _ _ _ g0
    obtain ⟨a1, k1, w1⟩ := opens_int Try.underlying3 _ _ _ g1
    obtain ⟨a2, k2, w2⟩ := opens_int Try.underlying3 _ _ _ g2
    obtain ⟨a3, k3, w3⟩ := opens_34 _ _ _ g3
    exact ⟨⟨a0, a1, a2, a3⟩, ⟨[v0], [v1, v2, v3, v4], rfl, k0, ⟨[v1], [v2, v3, v4], rfl, k1, ⟨[v2], [v3, v4], rfl, k2, k3⟩⟩⟩, w1, w2⟩
end Go.Proofs.Ytmiepbnjocojhaa.QN
