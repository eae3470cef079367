/- The row of the law StatOrders, out of its plain statement and the walk: it returns true for every input; no condition. -/
import Derived.Test.YtcmknnhhbcgoiaaRows
import Derived.Test.YtcmknnhhbcgoiaaQO
import Derived.Test.YtcmknnhhbcgoiaaOpen
import Derived.Test.YtcmknnhhbcgoiaaPureStatOrders
import Derived.WalkKit
import Derived.ProofKit
import Derived.OpenShut
import Derived.ShutString
import Derived.ChangeOld
import Derived.Below
import Derived.SizedLaws
namespace Go.Proofs.Ytcmknnhhbcgoiaa.statOrders
open Go.ChangeShapes Go.WideShapes Go.ChangeAt Go.RowKit
open Go.ChangeMaps (open_string shut_string)
set_option linter.unusedVariables false
theorem own : ownKnob Try.prog.godebug = none := by kernel_rfl
theorem laidOut : laidOutB Try.prog = true := by kernel_rfl
set_option maxRecDepth 100000 in
theorem lifted (os : Os) (started : os.Started) (H : Type) (enc : TypeId × Value → H) :
    ReturnsInHanded {} Try.checked os 7 .any (Rows.statOrdersSpec.pre6 enc Try.prog Try.f7 Rows.statOrdersRow.domain false) (Rows.statOrdersSpec.post enc Try.prog Try.f7 false true false false) := by
  refine returnsInHanded_of_change_sized (C := Try.checked) own started (by kernel_rfl) Try.func7
    (ChangeSpec.witness6 (enc := enc) (C := Try.checked) false ⟨#[], #[.slice none 0 0, .slice none 0 0, .slice none 0 0], []⟩ 8 (by kernel_rfl) (by kernel_rfl) (by kernel_rfl) (by kernel_rfl)) ?_
  intro W base args ds gs before hval0 hW hcnd hsz0 _
  have hval : ∀ (j : Nat) t v, Try.f7.params[j]? = some t → args[j]? = some v → Value.okWide Try.prog W .any base t v := hval0
  have hW' := hW
  obtain ⟨p, q, hA0, hV, rfl, hfz, hnd⟩ := hW
  have hA : DataW.TrodAll enc Try.prog W 0 (fun _ => true) true Try.f7.params.toList args.toList ds p := hA0
  rw [Try.params7] at hA hval
  obtain ⟨v0, vs0, d0, ds0, p0, q0, hargs, rfl, rfl, h0, r0⟩ := trodAll_cons hA
  obtain ⟨v1, vs1, d1, ds1, p1, q1, rfl, rfl, rfl, h1, r1⟩ := trodAll_cons r0
  obtain ⟨v2, vs2, d2, ds2, p2, q2, rfl, rfl, rfl, h2, r2⟩ := trodAll_cons r1
  obtain ⟨rfl, rfl, rfl⟩ := trodAll_nil r2
  obtain rfl : args = #[v0, v1, v2] := by cases args; simp_all
  obtain ⟨rfl, rfl⟩ := trodVars_none hV
  obtain ⟨a0, len0, cap0, rfl⟩ := okWide_slice Try.underlying25 (hval 0 25 v0 rfl rfl)
  have k0 := h0
  have lt0 : ∀ x ∈ p0, x.block < W.heap.size := by obtain ⟨m, hm⟩ := k0; exact DataW.trod_lt m _ _ _ hm
  obtain ⟨l0, hl0, hc0, hm0, hC0, hw0⟩ : ∃ l : List QN.S42, len0 = l.length ∧ l.length ≤ cap0 ∧ cap0 ≤ maxLen ∧ Go.Proofs.YtcmknnhhbcgoiaaW.PrintWords.Kd.C QN.k42 W a0 l.length l ∧ ∀ x ∈ l, True := by
    obtain ⟨fuel, hf⟩ := h0
    obtain ⟨A_, l, c, hcs, hc, hm, hC, hw⟩ := QN.open_row Try.underlying25 QN.opens_42 (by kernel_rfl) hf
    simp [Value.cells] at hcs
    obtain ⟨rfl, rfl, rfl⟩ := hcs
    exact ⟨l, rfl, hc, hm, hC, hw⟩
  subst hl0
  obtain ⟨a1, len1, cap1, rfl⟩ := okWide_slice Try.underlying25 (hval 1 25 v1 rfl rfl)
  have k1 := h1
  have lt1 : ∀ x ∈ p1, x.block < W.heap.size := by obtain ⟨m, hm⟩ := k1; exact DataW.trod_lt m _ _ _ hm
  obtain ⟨l1, hl1, hc1, hm1, hC1, hw1⟩ : ∃ l : List QN.S42, len1 = l.length ∧ l.length ≤ cap1 ∧ cap1 ≤ maxLen ∧ Go.Proofs.YtcmknnhhbcgoiaaW.PrintWords.Kd.C QN.k42 W a1 l.length l ∧ ∀ x ∈ l, True := by
    obtain ⟨fuel, hf⟩ := h1
    obtain ⟨A_, l, c, hcs, hc, hm, hC, hw⟩ := QN.open_row Try.underlying25 QN.opens_42 (by kernel_rfl) hf
    simp [Value.cells] at hcs
    obtain ⟨rfl, rfl, rfl⟩ := hcs
    exact ⟨l, rfl, hc, hm, hC, hw⟩
  subst hl1
  obtain ⟨a2, len2, cap2, rfl⟩ := okWide_slice Try.underlying25 (hval 2 25 v2 rfl rfl)
  have k2 := h2
  have lt2 : ∀ x ∈ p2, x.block < W.heap.size := by obtain ⟨m, hm⟩ := k2; exact DataW.trod_lt m _ _ _ hm
  obtain ⟨l2, hl2, hc2, hm2, hC2, hw2⟩ : ∃ l : List QN.S42, len2 = l.length ∧ l.length ≤ cap2 ∧ cap2 ≤ maxLen ∧ Go.Proofs.YtcmknnhhbcgoiaaW.PrintWords.Kd.C QN.k42 W a2 l.length l ∧ ∀ x ∈ l, True := by
    obtain ⟨fuel, hf⟩ := h2
    obtain ⟨A_, l, c, hcs, hc, hm, hC, hw⟩ := QN.open_row Try.underlying25 QN.opens_42 (by kernel_rfl) hf
    simp [Value.cells] at hcs
    obtain ⟨rfl, rfl, rfl⟩ := hcs
    exact ⟨l, rfl, hc, hm, hC, hw⟩
  subst hl2
  clear hA0 hval0
  obtain ⟨k, hpure⟩ := Pure.StatOrders l0 l1 l2 (Nat.le_trans hc0 hm0) hw0 (Nat.le_trans hc1 hm1) hw1 (Nat.le_trans hc2 hm2) hw2
  refine (QN.changelinglaw25_StatOrders.calls k _ _ l0 _ _ l1 _ _ l2 true W hC0 hc0 hC1 hc1 hC2 hc2 hpure).mono fun e W' ⟨he, bel⟩ => ?_
  subst he
  exact ⟨_, rfl, _, _, _, [], _, [], hW', trodAll_mk1 (shut_bool Try.underlying4 _), (trodAll_cons_mk (Below.trod laidOut (by kernel_rfl) (of_decide_eq_true (by kernel_rfl)) k0 bel lt0) (trodAll_cons_mk (Below.trod laidOut (by kernel_rfl) (of_decide_eq_true (by kernel_rfl)) k1 bel lt1) (trodAll_cons_mk (Below.trod laidOut (by kernel_rfl) (of_decide_eq_true (by kernel_rfl)) k2 bel lt2) trodAll_mk0))), rfl, bel.frame _, fun h => by cases h⟩
theorem over : Rows.statOrdersRow.holds Try.pinned (OpenSpec.ofChange Rows.statOrdersSpec) :=
  OpenClaim.holds_of_wide 7 Try.f7 rfl rfl rfl rfl rfl rfl rfl ⟨rfl, rfl, rfl, rfl, rfl⟩ rfl rfl rfl rfl rfl (by kernel_rfl) Try.func7 (by kernel_rfl)
    (of_decide_eq_true (by kernel_rfl)) (by unfold Func.isWrapper; first | (rw [if_pos (by decide +kernel)]; kernel_rfl) | (rw [if_neg (by decide +kernel)]; exact ⟨rfl, rfl⟩))
    (fun os started H enc _ => lifted os started H enc)
theorem proved : Rows.StatOrdersSaid := over
#print axioms proved
end Go.Proofs.Ytcmknnhhbcgoiaa.statOrders
namespace Go.Proofs.Ytcmknnhhbcgoiaa
/-- The row, under a short name, for the claim. -/
theorem statOrders_holds : Rows.StatOrdersSaid := statOrders.proved
end Go.Proofs.Ytcmknnhhbcgoiaa
