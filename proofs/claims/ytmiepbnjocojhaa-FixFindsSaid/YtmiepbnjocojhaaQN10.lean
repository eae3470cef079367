-- Lines written by a program of this session (wip/tools/myprint.py); Lean checks them.
import Derived.Test.YtmiepbnjocojhaaQN0
import Derived.Test.YtmiepbnjocojhaaQN2
import Derived.Test.YtmiepbnjocojhaaQN5
import Derived.Test.YtmiepbnjocojhaaQN9
import Derived.Test.YtmiepbnjocojhaaRsv
import Derived.Test.YtmiepbnjocojhaaDef
namespace Go.Proofs.Ytmiepbnjocojhaa.QN
open Go.RowKit Go.Proofs.YtmiepbnjocojhaaW.PrintWords Go.Proofs.YtmiepbnjocojhaaW.PrintLast Go.Proofs.YtmiepbnjocojhaaW.PrintMore
attribute [local go_sem] max2_int min2_int max_two min_two max_three min_three max_four min_four   -- for this text's walks alone
set_option linter.unusedVariables false
set_option linter.unusedSimpArgs false

attribute [local go_sem high] eqA36
/-! ### changelinglaw05_FixFinds: function 8 -/
def changelinglaw05_FixFinds.f (k : Nat) (l0 : List (S36)) (a1 : ByteArray) : Option (Bool) := (fix_Default.f k a1).bind fun bt310 => ((changelingref05_Default.f k a1).bind fun bt315 => (if (bt310.1.toList == bt315.1.toList && (bt310.2.1 == bt315.2.1 && (bt310.2.2.1 == bt315.2.2.1 && ((bt310.2.2.2.1 == bt315.2.2.2.1 && (bt310.2.2.2.2 == bt315.2.2.2.2)))))) = true then ((fix_Find.f k l0 a1).bind fun bt320 => ((changelingref05_Find.f k l0 a1).bind fun bt325 => (if (bt320.1.toList == bt325.1.toList && (bt320.2.1 == bt325.2.1 && (bt320.2.2.1 == bt325.2.2.1 && ((bt320.2.2.2.1 == bt325.2.2.2.1 && (bt320.2.2.2.2 == bt325.2.2.2.2)))))) = true then ((changelinglaw05_known.f k).bind fun t330 => (some t330)) else (some false)))) else (some false)))
theorem changelinglaw05_FixFinds.mono : ∀ a0 a1 k, LeO (changelinglaw05_FixFinds.f k a0 a1) (changelinglaw05_FixFinds.f (k + 1) a0 a1) := by
  intro a0 a1 k
  unfold changelinglaw05_FixFinds.f
  repeat' first
      | (with_reducible exact changelinglaw05_known.mono _)
      | (with_reducible exact changelingref05_Default.mono _ _)
      | (with_reducible exact changelingref05_Find.mono _ _ _)
      | (with_reducible exact fix_Default.mono _ _)
      | (with_reducible exact fix_Find.mono _ _ _)
      | (with_reducible exact LeO.refl _)
      | (with_reducible exact LeO.none _)
      | (with_reducible refine LeO.ite ?_ ?_)
      | (with_reducible refine LeO.bind ?_ (fun _ => ?_))
      | exact changelinglaw05_known.mono _
      | exact changelingref05_Default.mono _ _
      | exact changelingref05_Find.mono _ _ _
      | exact fix_Default.mono _ _
      | exact fix_Find.mono _ _ _
      | exact LeO.none _
      | refine LeO.ite ?_ ?_
      | refine LeO.bind ?_ (fun _ => ?_)
set_option maxHeartbeats 8000000 in
set_option maxRecDepth 100000 in
theorem changelinglaw05_FixFinds.calls (k : Nat) (A0 : Option Addr) (c0 : Nat) (l0 : List (S36)) (a1 : ByteArray) (r : Bool) (w : World) (hr0 : Kd.C k36 w A0 l0.length l0) (hc0 : l0.length ≤ c0) (h : changelinglaw05_FixFinds.f k l0 a1 = some r) :
    Calls Try.prog 8 #[.slice A0 l0.length c0, .string a1] w fun e w' => e = .returned (.bool r) ∧ Below w.heap.size w w' := by
  have HR0 := Aside0.mk hr0
  have HC0 := Aside0.mk hc0
  clear hr0 hc0
  have HB := Aside0.mk (Below.refl w.heap.size w)
  have H : ((fix_Default.f k a1).bind fun bt310 => ((changelingref05_Default.f k a1).bind fun bt315 => (if (bt310.1.toList == bt315.1.toList && (bt310.2.1 == bt315.2.1 && (bt310.2.2.1 == bt315.2.2.1 && ((bt310.2.2.2.1 == bt315.2.2.2.1 && (bt310.2.2.2.2 == bt315.2.2.2.2)))))) = true then ((fix_Find.f k l0 a1).bind fun bt320 => ((changelingref05_Find.f k l0 a1).bind fun bt325 => (if (bt320.1.toList == bt325.1.toList && (bt320.2.1 == bt325.2.1 && (bt320.2.2.1 == bt325.2.2.1 && ((bt320.2.2.2.1 == bt325.2.2.2.1 && (bt320.2.2.2.2 == bt325.2.2.2.2)))))) = true then ((changelinglaw05_known.f k).bind fun t330 => (some t330)) else (some false)))) else (some false)))) = some r := h
  clear h
  replace H := Option.bind_eq_some_iff.mp H
  obtain ⟨⟨t310, t311, t312, t313, t314⟩, A30, H⟩ := H
  replace H : ((changelingref05_Default.f k a1).bind fun bt315 => (if (t310.toList == bt315.1.toList && (t311 == bt315.2.1 && (t312 == bt315.2.2.1 && ((t313 == bt315.2.2.2.1 && (t314 == bt315.2.2.2.2)))))) = true then ((fix_Find.f k l0 a1).bind fun bt320 => ((changelingref05_Find.f k l0 a1).bind fun bt325 => (if (bt320.1.toList == bt325.1.toList && (bt320.2.1 == bt325.2.1 && (bt320.2.2.1 == bt325.2.2.1 && ((bt320.2.2.2.1 == bt325.2.2.2.1 && (bt320.2.2.2.2 == bt325.2.2.2.2)))))) = true then ((changelinglaw05_known.f k).bind fun t330 => (some t330)) else (some false)))) else (some false))) = some r := H
  have A3 := Aside0.mk A30
  clear A30
  replace H := Option.bind_eq_some_iff.mp H
  obtain ⟨⟨t315, t316, t317, t318, t319⟩, A40, H⟩ := H
  replace H : (if (t310.toList == t315.toList && (t311 == t316 && (t312 == t317 && ((t313 == t318 && (t314 == t319)))))) = true then ((fix_Find.f k l0 a1).bind fun bt320 => ((changelingref05_Find.f k l0 a1).bind fun bt325 => (if (bt320.1.toList == bt325.1.toList && (bt320.2.1 == bt325.2.1 && (bt320.2.2.1 == bt325.2.2.1 && ((bt320.2.2.2.1 == bt325.2.2.2.1 && (bt320.2.2.2.2 == bt325.2.2.2.2)))))) = true then ((changelinglaw05_known.f k).bind fun t330 => (some t330)) else (some false)))) else (some false)) = some r := H
  have A4 := Aside0.mk A40
  clear A40
  by_cases c5 : (t310.toList == t315.toList && (t311 == t316 && (t312 == t317 && ((t313 == t318 && (t314 == t319)))))) = true
  · rw [if_pos c5] at H
    have c5b0 : (t310.toList == t315.toList && (t311 == t316 && (t312 == t317 && ((t313 == t318 && (t314 == t319)))))) = true := c5
    (try (have c5b1 : decide (t310.toList = t315.toList && (t311 == t316 && (t312 == t317 && ((t313 == t318 && (t314 == t319)))))) = true := by simpa using c5))
    (try (have c5b2 : (t310.toList == t315.toList && (t311 == t316 && (t312 == t317 && ((t313 == t318 && (t314 == t319)))))) = true := by simpa using c5))
    clear c5
    replace H := Option.bind_eq_some_iff.mp H
    obtain ⟨⟨t320, t321, t322, t323, t324⟩, A60, H⟩ := H
    replace H : ((changelingref05_Find.f k l0 a1).bind fun bt325 => (if (t320.toList == bt325.1.toList && (t321 == bt325.2.1 && (t322 == bt325.2.2.1 && ((t323 == bt325.2.2.2.1 && (t324 == bt325.2.2.2.2)))))) = true then ((changelinglaw05_known.f k).bind fun t330 => (some t330)) else (some false))) = some r := H
    have A6 := Aside0.mk A60
    clear A60
    replace H := Option.bind_eq_some_iff.mp H
    obtain ⟨⟨t325, t326, t327, t328, t329⟩, A70, H⟩ := H
    replace H : (if (t320.toList == t325.toList && (t321 == t326 && (t322 == t327 && ((t323 == t328 && (t324 == t329)))))) = true then ((changelinglaw05_known.f k).bind fun t330 => (some t330)) else (some false)) = some r := H
    have A7 := Aside0.mk A70
    clear A70
    by_cases c8 : (t320.toList == t325.toList && (t321 == t326 && (t322 == t327 && ((t323 == t328 && (t324 == t329)))))) = true
    · rw [if_pos c8] at H
      have c8b0 : (t320.toList == t325.toList && (t321 == t326 && (t322 == t327 && ((t323 == t328 && (t324 == t329)))))) = true := c8
      (try (have c8b1 : decide (t320.toList = t325.toList && (t321 == t326 && (t322 == t327 && ((t323 == t328 && (t324 == t329)))))) = true := by simpa using c8))
      (try (have c8b2 : (t320.toList == t325.toList && (t321 == t326 && (t322 == t327 && ((t323 == t328 && (t324 == t329)))))) = true := by simpa using c8))
      clear c8
      replace H := Option.bind_eq_some_iff.mp H
      obtain ⟨t330, A90, H⟩ := H
      replace H : (some t330) = some r := H
      have A9 := Aside0.mk A90
      clear A90
      obtain rfl := Option.some.inj H
      go_enter Try.func8, Try.ntmps8
      go_wp2_with (first | ((with_reducible refine gate_callee (f := 15) rfl ?_); refine goesL_ (some 6) rfl rfl Try.func15 (by kernel_rfl) rfl #[.string a1] rfl (by (try simp only [List.map_toArray, List.map_cons, List.map_nil]); first | done | rfl | (simp only [List.length_drop, List.length_take]; rfl)) ?_; (with_reducible refine (fix_Default.calls k a1 t310 t311 t312 t313 t314 _ A3.out).mono ?_); rintro e w10 ⟨rfl, hb⟩; refine ⟨_, rfl, ?_⟩; have n0_ := Aside0.mk (below_step (by repeat (first | (with_reducible first | exact HB.out | apply below_alloc | apply pw_below_drewN | apply below_drew1) | exact HB.out)) hb); clear HB; have HB := n0_; clear n0_; (try clear hb); (try clear hb2); (try clear hk); (try clear hi)) | ((with_reducible refine gate_callee (f := 16) rfl ?_); refine goesL_ (some 8) rfl rfl Try.func16 (by kernel_rfl) rfl #[.string a1] rfl (by (try simp only [List.map_toArray, List.map_cons, List.map_nil]); first | done | rfl | (simp only [List.length_drop, List.length_take]; rfl)) ?_; (with_reducible refine (changelingref05_Default.calls k a1 t315 t316 t317 t318 t319 _ A4.out).mono ?_); rintro e w11 ⟨rfl, hb⟩; refine ⟨_, rfl, ?_⟩; have n0_ := Aside0.mk (below_step (by repeat (first | (with_reducible first | exact HB.out | apply below_alloc | apply pw_below_drewN | apply below_drew1) | exact HB.out)) hb); clear HB; have HB := n0_; clear n0_; (try clear hb); (try clear hb2); (try clear hk); (try clear hi)) | (go_at_call 17; (with_reducible refine (fix_Find.calls k _ _ l0 a1 t320 t321 t322 t323 t324 _ ?side1 ?side2 A6.out).mono ?_); (case side1 => repeat (first | exact (Kd.C_below HR0.out HB.out) | (with_reducible refine Kd.C_alloc ?_ _) | (with_reducible refine Kd.C_drewN ?_ _) | (with_reducible refine Kd.C_drew ?_))); (case side2 => exact HC0.out); rintro e w12 ⟨rfl, hb⟩; have n0_ := Aside0.mk (below_step (by repeat (first | (with_reducible first | exact HB.out | apply below_alloc | apply pw_below_drewN | apply below_drew1) | exact HB.out)) hb); clear HB; have HB := n0_; clear n0_; (try clear hb); (try clear hb2); (try clear hk); (try clear hi)) | (go_at_call 18; (with_reducible refine (changelingref05_Find.calls k _ _ l0 a1 t325 t326 t327 t328 t329 _ ?side1 ?side2 A7.out).mono ?_); (case side1 => repeat (first | exact (Kd.C_below HR0.out HB.out) | (with_reducible refine Kd.C_alloc ?_ _) | (with_reducible refine Kd.C_drewN ?_ _) | (with_reducible refine Kd.C_drew ?_))); (case side2 => exact HC0.out); rintro e w13 ⟨rfl, hb⟩; have n0_ := Aside0.mk (below_step (by repeat (first | (with_reducible first | exact HB.out | apply below_alloc | apply pw_below_drewN | apply below_drew1) | exact HB.out)) hb); clear HB; have HB := n0_; clear n0_; (try clear hb); (try clear hb2); (try clear hk); (try clear hi)) | (go_at_call 12; (with_reducible refine (changelinglaw05_known.calls k  t330 _ A9.out).mono ?_); rintro e w14 ⟨rfl, hb⟩; have n0_ := Aside0.mk (below_step (by repeat (first | (with_reducible first | exact HB.out | apply below_alloc | apply pw_below_drewN | apply below_drew1) | exact HB.out)) hb); clear HB; have HB := n0_; clear n0_; (try clear hb); (try clear hb2); (try clear hk); (try clear hi)))
      go_ret
      exact ⟨by first | rfl | (simp [errW_none, errW_some] <;> rfl) | (simp [*, errW_none, errW_some] <;> rfl), by repeat (first | (with_reducible first | exact HB.out | apply below_alloc | apply pw_below_drewN | apply below_drew1) | exact HB.out)⟩
    · rw [if_neg c8] at H
      have c8b0 : (t320.toList == t325.toList && (t321 == t326 && (t322 == t327 && ((t323 == t328 && (t324 == t329)))))) = false := by simpa using c8
      (try (have c8b1 : decide (t320.toList = t325.toList && (t321 == t326 && (t322 == t327 && ((t323 == t328 && (t324 == t329)))))) = false := by simpa using c8))
      (try (have c8b2 : (t320.toList == t325.toList && (t321 == t326 && (t322 == t327 && ((t323 == t328 && (t324 == t329)))))) = false := by simpa using c8))
      (try (have c8b3 : ¬ (t320.toList = t325.toList && (t321 == t326 && (t322 == t327 && ((t323 == t328 && (t324 == t329)))))) := by simpa using c8))
      clear c8
      obtain rfl := Option.some.inj H
      go_enter Try.func8, Try.ntmps8
      go_wp2_with (first | ((with_reducible refine gate_callee (f := 15) rfl ?_); refine goesL_ (some 6) rfl rfl Try.func15 (by kernel_rfl) rfl #[.string a1] rfl (by (try simp only [List.map_toArray, List.map_cons, List.map_nil]); first | done | rfl | (simp only [List.length_drop, List.length_take]; rfl)) ?_; (with_reducible refine (fix_Default.calls k a1 t310 t311 t312 t313 t314 _ A3.out).mono ?_); rintro e w15 ⟨rfl, hb⟩; refine ⟨_, rfl, ?_⟩; have n0_ := Aside0.mk (below_step (by repeat (first | (with_reducible first | exact HB.out | apply below_alloc | apply pw_below_drewN | apply below_drew1) | exact HB.out)) hb); clear HB; have HB := n0_; clear n0_; (try clear hb); (try clear hb2); (try clear hk); (try clear hi)) | ((with_reducible refine gate_callee (f := 16) rfl ?_); refine goesL_ (some 8) rfl rfl Try.func16 (by kernel_rfl) rfl #[.string a1] rfl (by (try simp only [List.map_toArray, List.map_cons, List.map_nil]); first | done | rfl | (simp only [List.length_drop, List.length_take]; rfl)) ?_; (with_reducible refine (changelingref05_Default.calls k a1 t315 t316 t317 t318 t319 _ A4.out).mono ?_); rintro e w16 ⟨rfl, hb⟩; refine ⟨_, rfl, ?_⟩; have n0_ := Aside0.mk (below_step (by repeat (first | (with_reducible first | exact HB.out | apply below_alloc | apply pw_below_drewN | apply below_drew1) | exact HB.out)) hb); clear HB; have HB := n0_; clear n0_; (try clear hb); (try clear hb2); (try clear hk); (try clear hi)) | (go_at_call 17; (with_reducible refine (fix_Find.calls k _ _ l0 a1 t320 t321 t322 t323 t324 _ ?side1 ?side2 A6.out).mono ?_); (case side1 => repeat (first | exact (Kd.C_below HR0.out HB.out) | (with_reducible refine Kd.C_alloc ?_ _) | (with_reducible refine Kd.C_drewN ?_ _) | (with_reducible refine Kd.C_drew ?_))); (case side2 => exact HC0.out); rintro e w17 ⟨rfl, hb⟩; have n0_ := Aside0.mk (below_step (by repeat (first | (with_reducible first | exact HB.out | apply below_alloc | apply pw_below_drewN | apply below_drew1) | exact HB.out)) hb); clear HB; have HB := n0_; clear n0_; (try clear hb); (try clear hb2); (try clear hk); (try clear hi)) | (go_at_call 18; (with_reducible refine (changelingref05_Find.calls k _ _ l0 a1 t325 t326 t327 t328 t329 _ ?side1 ?side2 A7.out).mono ?_); (case side1 => repeat (first | exact (Kd.C_below HR0.out HB.out) | (with_reducible refine Kd.C_alloc ?_ _) | (with_reducible refine Kd.C_drewN ?_ _) | (with_reducible refine Kd.C_drew ?_))); (case side2 => exact HC0.out); rintro e w18 ⟨rfl, hb⟩; have n0_ := Aside0.mk (below_step (by repeat (first | (with_reducible first | exact HB.out | apply below_alloc | apply pw_below_drewN | apply below_drew1) | exact HB.out)) hb); clear HB; have HB := n0_; clear n0_; (try clear hb); (try clear hb2); (try clear hk); (try clear hi)))
      go_ret
      exact ⟨by first | rfl | (simp [errW_none, errW_some] <;> rfl) | (simp [*, errW_none, errW_some] <;> rfl), by repeat (first | (with_reducible first | exact HB.out | apply below_alloc | apply pw_below_drewN | apply below_drew1) | exact HB.out)⟩
  · rw [if_neg c5] at H
    have c5b0 : (t310.toList == t315.toList && (t311 == t316 && (t312 == t317 && ((t313 == t318 && (t314 == t319)))))) = false := by simpa using c5
    (try (have c5b1 : decide (t310.toList = t315.toList && (t311 == t316 && (t312 == t317 && ((t313 == t318 && (t314 == t319)))))) = false := by simpa using c5))
    (try (have c5b2 : (t310.toList == t315.toList && (t311 == t316 && (t312 == t317 && ((t313 == t318 && (t314 == t319)))))) = false := by simpa using c5))
    (try (have c5b3 : ¬ (t310.toList = t315.toList && (t311 == t316 && (t312 == t317 && ((t313 == t318 && (t314 == t319)))))) := by simpa using c5))
    clear c5
    obtain rfl := Option.some.inj H
    go_enter Try.func8, Try.ntmps8
    go_wp2_with (first | ((with_reducible refine gate_callee (f := 15) rfl ?_); refine goesL_ (some 6) rfl rfl Try.func15 (by kernel_rfl) rfl #[.string a1] rfl (by (try simp only [List.map_toArray, List.map_cons, List.map_nil]); first | done | rfl | (simp only [List.length_drop, List.length_take]; rfl)) ?_; (with_reducible refine (fix_Default.calls k a1 t310 t311 t312 t313 t314 _ A3.out).mono ?_); rintro e w19 ⟨rfl, hb⟩; refine ⟨_, rfl, ?_⟩; have n0_ := Aside0.mk (below_step (by repeat (first | (with_reducible first | exact HB.out | apply below_alloc | apply pw_below_drewN | apply below_drew1) | exact HB.out)) hb); clear HB; have HB := n0_; clear n0_; (try clear hb); (try clear hb2); (try clear hk); (try clear hi)) | ((with_reducible refine gate_callee (f := 16) rfl ?_); refine goesL_ (some 8) rfl rfl Try.func16 (by kernel_rfl) rfl #[.string a1] rfl (by (try simp only [List.map_toArray, List.map_cons, List.map_nil]); first | done | rfl | (simp only [List.length_drop, List.length_take]; rfl)) ?_; (with_reducible refine (changelingref05_Default.calls k a1 t315 t316 t317 t318 t319 _ A4.out).mono ?_); rintro e w20 ⟨rfl, hb⟩; refine ⟨_, rfl, ?_⟩; have n0_ := Aside0.mk (below_step (by repeat (first | (with_reducible first | exact HB.out | apply below_alloc | apply pw_below_drewN | apply below_drew1) | exact HB.out)) hb); clear HB; have HB := n0_; clear n0_; (try clear hb); (try clear hb2); (try clear hk); (try clear hi)))
    go_ret
    exact ⟨by first | rfl | (simp [errW_none, errW_some] <;> rfl) | (simp [*, errW_none, errW_some] <;> rfl), by repeat (first | (with_reducible first | exact HB.out | apply below_alloc | apply pw_below_drewN | apply below_drew1) | exact HB.out)⟩

end Go.Proofs.Ytmiepbnjocojhaa.QN
