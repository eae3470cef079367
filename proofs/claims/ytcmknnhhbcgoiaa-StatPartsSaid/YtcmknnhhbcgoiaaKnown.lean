/- stat's law: known(), what must come of fixed calls: it is true. -/
import Derived.Test.YtcmknnhhbcgoiaaText
import Derived.Test.YtcmknnhhbcgoiaaCnt
import Derived.Test.YtcmknnhhbcgoiaaQN4
import Derived.Deep.DeepMust
namespace Go.Proofs.Ytcmknnhhbcgoiaa.QN
open Go.RowKit Go.Proofs.YtcmknnhhbcgoiaaW.PrintWords Go.Proofs.YtcmknnhhbcgoiaaW.PrintLast Go.Proofs.YtcmknnhhbcgoiaaW.PrintMore
set_option linter.unusedVariables false
set_option linter.unusedSimpArgs false
def row14 : S42 := ⟨14, 1, 1, 0, 0⟩
def m14 : S67 := ⟨0, 14, (none, 0, 0), (none, 0, 0), (none, 0, 0)⟩
def vK (i : Int) : SV := ⟨i, i, 0, 0, ⟨#[]⟩, 0, (none, 0, 0), 0⟩
theorem known_cnt : (cnt 0 (List.replicate 15 z42) [m14, m14] [vK 1, vK 2]).map keepR = some [row14] := by kernel_rfl
theorem known_right : stat_Right.f 20 [row14] = some true := by kernel_rfl
theorem known_sum : stat_Sum.f 20 [row14] = some (0, 1, 1, 0, 0) := by kernel_rfl
theorem known_t1 : num_Text.f 20 1 = some ⟨#[49]⟩ := by kernel_rfl
theorem known_t0 : num_Text.f 20 0 = some ⟨#[48]⟩ := by kernel_rfl
theorem known_name : mutate_Name.f 14 = some ⟨#[114, 101, 108]⟩ := by kernel_rfl
theorem known_th : stat_Thousandths.f 1 2 = some 500 := by kernel_rfl
def tK (n : Int) : ByteArray := if n = 1 then ⟨#[49]⟩ else ⟨#[48]⟩
def nmK (_ : Int) : ByteArray := ⟨#[114, 101, 108]⟩
theorem known_text : (⟨(linesU tK nmK [row14] ++ lineU tK sumNm ⟨0, 1, 1, 0, 0⟩).toArray⟩ : ByteArray) = ⟨#[114, 101, 108, 32, 49, 32, 49, 32, 48, 32, 48, 10, 115, 117, 109, 32, 49, 32, 49, 32, 48, 32, 48, 10]⟩ := by kernel_rfl
theorem known_count : CountG [m14, m14] [vK 1, vK 2] = ([row14], 0) := by
  unfold CountG CountF
  have h : [m14, m14].length = [vK 1, vK 2].length := rfl
  rw [if_pos h, known_cnt]
theorem text_known (A : Option Addr) (c : Nat) (w : World) (hC : Kd.C k42 w A 1 [row14]) (hc : 1 ≤ c) : Calls Try.prog 18 #[.slice A 1 c] w fun e w' => e = .returned (.string ⟨#[114, 101, 108, 32, 49, 32, 49, 32, 48, 32, 48, 10, 115, 117, 109, 32, 49, 32, 49, 32, 48, 32, 48, 10]⟩) ∧ Below w.heap.size w w' := by
  refine (Text_yes A c [row14] 20 20 20 ⟨0, 1, 1, 0, 0⟩ tK nmK w hC hc (by decide) known_right known_sum ?_ ?_).mono (fun e w' h => ⟨by rw [h.1, known_text], h.2⟩)
  · intro n hn
    simp at hn
    rcases hn with rfl | rfl
    · exact ⟨known_t1, by decide⟩
    · exact ⟨known_t0, by decide⟩
  · intro r hr
    simp at hr
    subst hr
    refine ⟨fun n hn => ?_, known_name, by decide⟩
    simp [row14] at hn
    rcases hn with rfl | rfl
    · exact ⟨known_t1, by decide⟩
    · exact ⟨known_t0, by decide⟩
theorem known_calls (w : World) : Calls Try.prog 9 #[] w fun e w' => e = .returned (.bool true) ∧ Below w.heap.size w w' := by
  go_enter Try.func9, Try.ntmps9
  go_wp2_with (first
    | ((with_reducible refine gate_dst (N := 6) rfl ?_); go_must (refine Kd.R_lit k67 (w0 := w) (W := w) w.heap.size 67 rfl (N := 6) rfl (xs := [m14, m14]) (inner := [.int .i64 0, .int .i64 14, .slice none 0 0, .slice none 0 0, .slice none 0 0, .int .i64 0, .int .i64 14, .slice none 0 0, .slice none 0 0, .slice none 0 0]) (okp := fun _ => True) (ok := fun _ => True) ?hr ⟨rfl, fun j p hj => by (cases j with | zero => (simp at hj; subst hj; exact k67_mkM _ _ _ m14) | succ j => (cases j with | zero => (simp at hj; subst hj; exact k67_mkM _ _ _ m14) | succ j => simp at hj))⟩ (fun _ hk => hk) trivial (Below.refl _ _) (Nat.le_refl _) (by decide) ?_; (case hr => first | (go_simp; done) | (go_simp; rfl)); intro va w1 ha hb hg hn; obtain ⟨Am, cm, rfl, hcm, hCm⟩ := Kd.R_reads ha; have HA := Aside0.mk ha; have HB := Aside0.mk hb; clear ha hb hg hn hcm hCm))
    | ((with_reducible refine gate_dst (N := 11) rfl ?_); go_must (refine Kd.R_lit kV (w0 := w) (W := w1) w.heap.size 55 rfl (N := 11) rfl (xs := [vK 1, vK 2]) (inner := [.int .i64 1, .int .i64 1, .int .i64 0, .int .i64 0, .string ⟨#[]⟩, .int .i64 0, .slice none 0 0, .int .i64 0, .int .i64 2, .int .i64 2, .int .i64 0, .int .i64 0, .string ⟨#[]⟩, .int .i64 0, .slice none 0 0, .int .i64 0]) (okp := fun _ => True) (ok := fun _ => True) ?hr ⟨rfl, fun j p hj => by (cases j with | zero => (simp at hj; subst hj; exact kV_mkM _ _ _ (vK 1)) | succ j => (cases j with | zero => (simp at hj; subst hj; exact kV_mkM _ _ _ (vK 2)) | succ j => simp at hj))⟩ (fun _ hk => hk) trivial HB.out HB.out.size (by decide) ?_; (case hr => first | (go_simp; done) | (go_simp; rfl)); intro vb w2 ha2 hb2 hg2 hn2; obtain ⟨Av, cv, rfl, hcv, hCv⟩ := Kd.R_reads ha2; have HV := Aside0.mk (And.intro hcv hCv); have HA2 : Aside0 (2 ≤ cm ∧ Kd.C k67 w2 Am 2 [m14, m14]) := ⟨(Kd.R_reads' (Kd.R_grown HA.out hg2 (fun _ _ h => by cases h))).2⟩; have HB2 := Aside0.mk hb2; clear ha2 hb2 hg2 hn2 hcv hCv HA HB))
    | (go_at_call 10; go_must (refine (stat_Count.calls Am cm [m14, m14] Av cv [vK 1, vK 2] w2 HA2.out.2 HA2.out.1 HV.out.2 HV.out.1).mono ?_; rw [known_count]; rintro e w3 ⟨vc, rfl, hR3, hb3⟩; obtain ⟨Ac, cc, rfl, hcc, hCc⟩ := Kd.R_reads hR3; have HC3 : Aside0 (1 ≤ cc ∧ Kd.C k42 w3 Ac 1 [row14]) := ⟨hcc, hCc⟩; have HB3 := Aside0.mk (below_then HB2.out HB2.out.size hb3); clear hR3 hb3 hcc hCc HB2 HA2 HV))
    | (go_at_call 18; go_must (refine (text_known Ac cc w3 HC3.out.2 HC3.out.1).mono ?_; rintro e w4 ⟨rfl, hb4⟩; have HB4 := Aside0.mk (below_then HB3.out HB3.out.size hb4); clear hb4 HB3 HC3))
    | (go_at_call 20; go_must (refine (stat_Thousandths.calls 1 2 500 w4 known_th).mono ?_; rintro e w5 ⟨rfl, hd5⟩; have HB5 := Aside0.mk (below_then HB4.out HB4.out.size hd5.below); clear hd5 HB4)))
  go_ret
  exact ⟨rfl, HB5.out⟩
/-- known(), as printed contracts have it. -/
def changelinglaw25_known.f : Option Bool := some true
theorem changelinglaw25_known.calls (r : Bool) (w : World) (h : changelinglaw25_known.f = some r) : Calls Try.prog 9 #[] w fun e w' => e = .returned (.bool r) ∧ Below w.heap.size w w' := by
  obtain rfl : true = r := by injection h
  exact known_calls w
end Go.Proofs.Ytcmknnhhbcgoiaa.QN
