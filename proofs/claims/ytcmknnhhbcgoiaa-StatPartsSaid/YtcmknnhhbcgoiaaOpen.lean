/- How an argument that is a slice of structs is opened: it reads as a list, whatever it holds; no condition. -/
import Derived.Test.YtcmknnhhbcgoiaaKnd
import Derived.Deep.Slices
namespace Go.Proofs.Ytcmknnhhbcgoiaa.QN
open Go.RowKit Go.ChangeShapes Go.WideShapes Go.Proofs.YtcmknnhhbcgoiaaW.PrintWords Go.Proofs.YtcmknnhhbcgoiaaW.PrintLast Go.Proofs.YtcmknnhhbcgoiaaW.PrintMore
set_option linter.unusedVariables false
/-- Whatever reads by the type is a value of the kind. -/
def Opens {H : Type} (enc : TypeId × Value → H) (P : Program) (w : World) (base : Nat) (spare : Nat → Bool) (held : Bool) {α : Type} (t : TypeId) (d : Kd α) (wf : α → Prop) : Prop :=
  ∀ (fuel : Nat) (cs : List Value) (x : DataW H × List MemPlace), DataW.trod enc P w base spare held fuel t cs = some x → ∃ p, d.K w p cs ∧ wf p
section
variable {H : Type} {enc : TypeId × Value → H} {P : Program} {w : World} {base : Nat} {spare : Nat → Bool} {held : Bool} {α : Type}
theorem opens_int {t : TypeId} {k : IntKind} (ht : P.underlying t = some (.int k)) : Opens enc P w base spare held t (Kd.int k) (fun n => (Lit.int k n).wf = true) := by
  intro fuel cs x h
  obtain ⟨n, rfl, _, hw⟩ := DataW.trod_int ht h
  exact ⟨n, rfl, hw⟩
theorem opens_bool {t : TypeId} (ht : P.underlying t = some .bool) : Opens enc P w base spare held t Kd.bool (fun _ => True) := by
  intro fuel cs x h
  obtain ⟨n, rfl, _⟩ := DataW.trod_bool ht h
  exact ⟨n, rfl, trivial⟩
theorem opens_string {t : TypeId} (ht : P.underlying t = some .string) : Opens enc P w base spare held t Kd.string (fun s => s.size ≤ maxLen) := by
  intro fuel cs x h
  obtain ⟨n, rfl, _, hw⟩ := DataW.trod_string ht h
  exact ⟨n, rfl, hw⟩
theorem open_row {t e : TypeId} {d : Kd α} {wf : α → Prop} {fuel : Nat} {cs : List Value} {x : DataW H × List MemPlace} (ht : P.underlying t = some (.slice e)) (he : Opens enc P w base spare held e d wf) (hsz : P.cellsOf e = d.sz)
    (h : DataW.trod enc P w base spare held fuel t cs = some x) : ∃ (A : Option Addr) (l : List α) (c : Nat), cs = [.slice A l.length c] ∧ l.length ≤ c ∧ c ≤ maxLen ∧ d.C w A l.length l ∧ ∀ p ∈ l, wf p := by
  rcases Deep.open_slice ht h with ⟨rfl, _⟩ | ⟨a, len, cap, m, n, D, Pl, rfl, hb, hl, hm, hmm, hxx, hx⟩
  · exact ⟨none, [], 0, rfl, Nat.le_refl _, Nat.zero_le _, ⟨rfl, by simp, fun h => absurd h (by simp)⟩, by simp⟩
  have hlm : len ≤ m := by rw [hmm]; split <;> omega
  have each : ∀ i, i < len → ∃ p : α, ∃ cs', w.cells? base (a.add (i * P.cellsOf e)) (P.cellsOf e) = some cs' ∧ d.K w p cs' ∧ wf p := by
    intro i hi
    obtain ⟨cs', h1, h2⟩ := hx i (by omega)
    obtain ⟨p, hp, hw⟩ := he _ _ _ h2
    exact ⟨p, cs', h1, hp, hw⟩
  have fin : ∃ l : List α, l.length = len ∧ ∀ i p, l[i]? = some p → ∃ cs', w.cells? base (a.add (i * P.cellsOf e)) (P.cellsOf e) = some cs' ∧ d.K w p cs' ∧ wf p := by
    clear hl hm hmm hlm hx h hxx
    induction len with
    | zero => exact ⟨[], rfl, fun i p hp => by simp at hp⟩
    | succ n ih =>
      obtain ⟨l, hll, hlp⟩ := ih (fun i hi => each i (by omega))
      obtain ⟨p, hp⟩ := each n (by omega)
      refine ⟨l ++ [p], by simp [hll], fun i q hq => ?_⟩
      rcases Nat.lt_or_ge i l.length with hi | hi
      · rw [List.getElem?_append_left hi] at hq; exact hlp i q hq
      · rw [List.getElem?_append_right hi] at hq
        have : i - l.length = 0 := by
          by_cases h0 : i - l.length = 0
          · exact h0
          · rw [List.getElem?_eq_none (by simp; omega)] at hq; simp at hq
        rw [this] at hq
        simp at hq; subst hq
        have : i = n := by omega
        subst this
        exact hp
  obtain ⟨l, hll, hlp⟩ := fin
  subst hll
  refine ⟨some a, l, cap, rfl, hl, hm, ⟨rfl, by unfold maxLen at hm; omega, fun _ => ⟨a, rfl, fun j p hj => ?_⟩⟩, fun p hp => ?_⟩
  · obtain ⟨cs', h1, h2, _⟩ := hlp j p hj
    obtain ⟨_, hlen, hcell⟩ := World.cells?_some h1
    refine ⟨cs', by rw [hlen, hsz], h2, fun i u hu => ?_⟩
    have hi : i < cs'.length := (List.getElem?_eq_some_iff.1 hu).1
    have := hcell i (by omega)
    rw [Deep.add_add, hsz, hu] at this
    exact this
  · obtain ⟨i, hi⟩ := List.getElem?_of_mem hp
    obtain ⟨_, _, _, hw⟩ := hlp i p hi
    exact hw
theorem opens_slice {t e : TypeId} {d : Kd α} {wf : α → Prop} (ht : P.underlying t = some (.slice e)) (he : Opens enc P w base spare held e d wf) (hsz : P.cellsOf e = d.sz) :
    Opens enc P w base spare held t (Kd.slice e d) (fun l => ∀ p ∈ l, wf p) := by
  intro fuel cs x h
  obtain ⟨A, l, c, rfl, hc, _, hC, hw⟩ := open_row ht he hsz h
  exact ⟨l, ⟨A, c, rfl, hc, hC⟩, hw⟩
end
set_option maxRecDepth 100000 in
theorem opens_42 {H : Type} {enc : TypeId × Value → H} {w : World} {base : Nat} {spare : Nat → Bool} {held : Bool} : Opens enc Try.prog w base spare held 42 k42 (fun _ => True) := by
  intro fuel cs x h
  obtain ⟨xs, n, _, _, hlen, hxl, hf⟩ := DataW.trod_struct Try.underlying42 h
  have hl : Try.prog.cellsOf 42 = 5 := by kernel_rfl
  rw [hl] at hlen
  match xs, hxl, cs, hlen with
  | [y0, y1, y2, y3, y4], _, [v0, v1, v2, v3, v4], _ =>
    have c0 : Try.prog.cellsOf 3 = 1 := by kernel_rfl
    have g0 := hf 0 _ rfl
    have g1 := hf 1 _ rfl
    have g2 := hf 2 _ rfl
    have g3 := hf 3 _ rfl
    have g4 := hf 4 _ rfl
    simp [c0] at g0 g1 g2 g3 g4
    obtain ⟨a0, k0, _⟩ := opens_int Try.underlying3 _ _ _ g0
    obtain ⟨a1, k1, _⟩ := opens_int Try.underlying3 _ _ _ g1
    obtain ⟨a2, k2, _⟩ := opens_int Try.underlying3 _ _ _ g2
    obtain ⟨a3, k3, _⟩ := opens_int Try.underlying3 _ _ _ g3
    obtain ⟨a4, k4, _⟩ := opens_int Try.underlying3 _ _ _ g4
    exact ⟨⟨a0, a1, a2, a3, a4⟩, ⟨[v0], [v1, v2, v3, v4], rfl, k0, ⟨[v1], [v2, v3, v4], rfl, k1, ⟨[v2], [v3, v4], rfl, k2, ⟨[v3], [v4], rfl, k3, k4⟩⟩⟩⟩, trivial⟩
end Go.Proofs.Ytcmknnhhbcgoiaa.QN
