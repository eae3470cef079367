/- Mutants and verdicts as they lie in memory, as far as stat looks at them: their slices are left shut. -/
import Derived.Test.YtcmknnhhbcgoiaaQN0
namespace Go.Proofs.Ytcmknnhhbcgoiaa.QN
open Go.RowKit Go.Proofs.YtcmknnhhbcgoiaaW.PrintWords Go.Proofs.YtcmknnhhbcgoiaaW.PrintLast Go.Proofs.YtcmknnhhbcgoiaaW.PrintMore
set_option linter.unusedVariables false
set_option linter.unusedSimpArgs false
abbrev Sl := Option Addr × Nat × Nat
abbrev slV (x : Sl) : Value := .slice x.1 x.2.1 x.2.2
def ksl : Kd Sl := Kd.scalar slV (fun _ => rfl)
structure S67 where
  f0 : Int
  f1 : Int
  f2 : Sl
  f3 : Sl
  f4 : Sl
def z67 : S67 := ⟨0, 0, (none, 0, 0), (none, 0, 0), (none, 0, 0)⟩
def k67 : Kd S67 := Kd.iso (Kd.pair (Kd.int .i64) (Kd.pair (Kd.int .i64) (Kd.pair ksl (Kd.pair ksl ksl)))) (fun x : S67 => (x.f0, x.f1, x.f2, x.f3, x.f4))
theorem k67_open {w : World} {x : S67} {cs : List Value} (h : k67.K w x cs) : cs = [.int .i64 x.f0, .int .i64 x.f1, slV x.f2, slV x.f3, slV x.f4] := by
  obtain ⟨_, _, rfl, rfl, ⟨_, _, rfl, rfl, ⟨_, _, rfl, rfl, ⟨_, _, rfl, rfl, rfl⟩⟩⟩⟩ := h
  rfl
theorem k67_mk (w : World) (x : S67) : k67.K w x [.int .i64 x.f0, .int .i64 x.f1, slV x.f2, slV x.f3, slV x.f4] := ⟨[_], _, rfl, rfl, ⟨[_], _, rfl, rfl, ⟨[_], _, rfl, rfl, ⟨[_], _, rfl, rfl, rfl⟩⟩⟩⟩
theorem k67_mkM (w : World) (base : Nat) (ok : Nat → Prop) (x : S67) : k67.M w base ok x [.int .i64 x.f0, .int .i64 x.f1, slV x.f2, slV x.f3, slV x.f4] := ⟨[_], _, rfl, rfl, ⟨[_], _, rfl, rfl, ⟨[_], _, rfl, rfl, ⟨[_], _, rfl, rfl, rfl⟩⟩⟩⟩
def rd_T67 (xs : List S67) (i : Int) : S67 := xs.getD i.toNat z67
theorem at_T67 {w : World} {A : Option Addr} {n : Nat} {xs : List S67} (h : Kd.C k67 w A n xs) (i : Int) (h0 : 0 ≤ i) (h1 : i < n) : ∃ ad, A = some ad ∧ w.cell? (ad.add (i.toNat * 5)) = some (.int .i64 (rd_T67 xs i).f0) ∧ w.cell? ⟨(ad.add (i.toNat * 5)).block, (ad.add (i.toNat * 5)).off + 1, none⟩ = some (.int .i64 (rd_T67 xs i).f1) ∧ w.cell? ⟨(ad.add (i.toNat * 5)).block, (ad.add (i.toNat * 5)).off + 2, none⟩ = some (slV (rd_T67 xs i).f2) ∧ w.cell? ⟨(ad.add (i.toNat * 5)).block, (ad.add (i.toNat * 5)).off + 3, none⟩ = some (slV (rd_T67 xs i).f3) ∧ w.cell? ⟨(ad.add (i.toNat * 5)).block, (ad.add (i.toNat * 5)).off + 4, none⟩ = some (slV (rd_T67 xs i).f4) := by
  obtain ⟨ad, c, e, _, hK, hc0⟩ := Kd.C_get h z67 i h0 h1
  have hc : ∀ j u, c[j]? = some u → w.cell? (ad.add (i.toNat * 5 + j)) = some u := hc0
  rw [k67_open hK] at hc
  exact ⟨ad, e, hc 0 _ rfl, by rw [← add_field _ _ 1 (by omega)]; exact hc 1 _ rfl, by rw [← add_field _ _ 2 (by omega)]; exact hc 2 _ rfl, by rw [← add_field _ _ 3 (by omega)]; exact hc 3 _ rfl, by rw [← add_field _ _ 4 (by omega)]; exact hc 4 _ rfl⟩
/-- A verdict: Select, Kind, Test and what came out (its type's slice is shut). -/
structure SV where
  f0 : Int
  f1 : Int
  f2 : Int
  f3 : Int
  f4 : ByteArray
  f5 : Int
  f6 : Sl
  f7 : Int
def zV : SV := ⟨0, 0, 0, 0, ⟨#[]⟩, 0, (none, 0, 0), 0⟩
def kV : Kd SV := Kd.iso (Kd.pair (Kd.int .i64) (Kd.pair (Kd.int .i64) (Kd.pair (Kd.int .i64) (Kd.pair (Kd.int .i64) (Kd.pair Kd.string (Kd.pair (Kd.int .i64) (Kd.pair ksl (Kd.int .i64)))))))) (fun x : SV => (x.f0, x.f1, x.f2, x.f3, x.f4, x.f5, x.f6, x.f7))
theorem kV_open {w : World} {x : SV} {cs : List Value} (h : kV.K w x cs) : cs = [.int .i64 x.f0, .int .i64 x.f1, .int .i64 x.f2, .int .i64 x.f3, .string x.f4, .int .i64 x.f5, slV x.f6, .int .i64 x.f7] := by
  obtain ⟨_, _, rfl, rfl, ⟨_, _, rfl, rfl, ⟨_, _, rfl, rfl, ⟨_, _, rfl, rfl, ⟨_, _, rfl, rfl, ⟨_, _, rfl, rfl, ⟨_, _, rfl, rfl, rfl⟩⟩⟩⟩⟩⟩⟩ := h
  rfl
theorem kV_mk (w : World) (x : SV) : kV.K w x [.int .i64 x.f0, .int .i64 x.f1, .int .i64 x.f2, .int .i64 x.f3, .string x.f4, .int .i64 x.f5, slV x.f6, .int .i64 x.f7] := ⟨[_], _, rfl, rfl, ⟨[_], _, rfl, rfl, ⟨[_], _, rfl, rfl, ⟨[_], _, rfl, rfl, ⟨[_], _, rfl, rfl, ⟨[_], _, rfl, rfl, ⟨[_], _, rfl, rfl, rfl⟩⟩⟩⟩⟩⟩⟩
theorem kV_mkM (w : World) (base : Nat) (ok : Nat → Prop) (x : SV) : kV.M w base ok x [.int .i64 x.f0, .int .i64 x.f1, .int .i64 x.f2, .int .i64 x.f3, .string x.f4, .int .i64 x.f5, slV x.f6, .int .i64 x.f7] := ⟨[_], _, rfl, rfl, ⟨[_], _, rfl, rfl, ⟨[_], _, rfl, rfl, ⟨[_], _, rfl, rfl, ⟨[_], _, rfl, rfl, ⟨[_], _, rfl, rfl, ⟨[_], _, rfl, rfl, rfl⟩⟩⟩⟩⟩⟩⟩
def rd_TV (xs : List SV) (i : Int) : SV := xs.getD i.toNat zV
theorem at_TV {w : World} {A : Option Addr} {n : Nat} {xs : List SV} (h : Kd.C kV w A n xs) (i : Int) (h0 : 0 ≤ i) (h1 : i < n) : ∃ ad, A = some ad ∧ w.cell? (ad.add (i.toNat * 8)) = some (.int .i64 (rd_TV xs i).f0) ∧ w.cell? ⟨(ad.add (i.toNat * 8)).block, (ad.add (i.toNat * 8)).off + 1, none⟩ = some (.int .i64 (rd_TV xs i).f1) ∧ w.cell? ⟨(ad.add (i.toNat * 8)).block, (ad.add (i.toNat * 8)).off + 2, none⟩ = some (.int .i64 (rd_TV xs i).f2) ∧ w.cell? ⟨(ad.add (i.toNat * 8)).block, (ad.add (i.toNat * 8)).off + 3, none⟩ = some (.int .i64 (rd_TV xs i).f3) ∧ w.cell? ⟨(ad.add (i.toNat * 8)).block, (ad.add (i.toNat * 8)).off + 4, none⟩ = some (.string (rd_TV xs i).f4) ∧ w.cell? ⟨(ad.add (i.toNat * 8)).block, (ad.add (i.toNat * 8)).off + 5, none⟩ = some (.int .i64 (rd_TV xs i).f5) ∧ w.cell? ⟨(ad.add (i.toNat * 8)).block, (ad.add (i.toNat * 8)).off + 6, none⟩ = some (slV (rd_TV xs i).f6) ∧ w.cell? ⟨(ad.add (i.toNat * 8)).block, (ad.add (i.toNat * 8)).off + 7, none⟩ = some (.int .i64 (rd_TV xs i).f7) := by
  obtain ⟨ad, c, e, _, hK, hc0⟩ := Kd.C_get h zV i h0 h1
  have hc : ∀ j u, c[j]? = some u → w.cell? (ad.add (i.toNat * 8 + j)) = some u := hc0
  rw [kV_open hK] at hc
  exact ⟨ad, e, hc 0 _ rfl, by rw [← add_field _ _ 1 (by omega)]; exact hc 1 _ rfl, by rw [← add_field _ _ 2 (by omega)]; exact hc 2 _ rfl, by rw [← add_field _ _ 3 (by omega)]; exact hc 3 _ rfl, by rw [← add_field _ _ 4 (by omega)]; exact hc 4 _ rfl, by rw [← add_field _ _ 5 (by omega)]; exact hc 5 _ rfl, by rw [← add_field _ _ 6 (by omega)]; exact hc 6 _ rfl, by rw [← add_field _ _ 7 (by omega)]; exact hc 7 _ rfl⟩
theorem cells67 : Try.prog.cellsOf 67 = 5 := by kernel_rfl
theorem cells55 : Try.prog.cellsOf 55 = 8 := by kernel_rfl
def oneR (op kind : Int) : S42 := ⟨op, if kind = 1 then 1 else 0, if kind = 2 then 1 else 0, if kind = 3 then 1 else 0, if kind = 4 then 1 else 0⟩
def okOne (op kind : Int) : Bool := decide (1 ≤ kind ∧ kind ≤ 4 ∧ 1 ≤ op ∧ op ≤ 14)
def addR (r q : S42) : S42 := ⟨r.f0, wrap64 (r.f1 + q.f1), wrap64 (r.f2 + q.f2), wrap64 (r.f3 + q.f3), wrap64 (r.f4 + q.f4)⟩
def totR (r : S42) : Int := wrap64 ((wrap64 ((wrap64 (r.f1 + r.f2)) + r.f3)) + r.f4)
def cok (i : Nat) (m : S67) (x : SV) : Bool := okOne m.f1 x.f1 && decide (x.f0 = (i : Int) + 1)
def stepR (all : List S42) (m : S67) (x : SV) : List S42 := all.set m.f1.toNat (addR (oneR m.f1 x.f1) (rd_T42 all m.f1))
def cnt : Nat → List S42 → List S67 → List SV → Option (List S42)
  | _, all, [], _ => some all
  | i, all, m :: l, x :: v => if cok i m x = true then cnt (i + 1) (stepR all m x) l v else none
  | _, _, _ :: _, [] => none
def keepR (all : List S42) : List S42 := all.filter (fun r => decide (totR r > 0))
def CountF (l : List S67) (v : List SV) : Option (List S42) := if l.length = v.length then (cnt 0 (List.replicate 15 z42) l v).map keepR else none
theorem drop_T67 (l : List S67) (m : Nat) (h : m < l.length) : l.drop m = rd_T67 l (m : Int) :: l.drop (m + 1) := by
  have e : rd_T67 l (m : Int) = l[m] := by simp [rd_T67, h]
  rw [e]; exact List.drop_eq_getElem_cons h
theorem drop_TV (l : List SV) (m : Nat) (h : m < l.length) : l.drop m = rd_TV l (m : Int) :: l.drop (m + 1) := by
  have e : rd_TV l (m : Int) = l[m] := by simp [rd_TV, h]
  rw [e]; exact List.drop_eq_getElem_cons h
theorem cnt_len : ∀ (l : List S67) (v : List SV) (i : Nat) (all t : List S42), cnt i all l v = some t → t.length = all.length
  | [], v, i, all, t, h => by simp [cnt] at h; rw [h]
  | m :: l, [], i, all, t, h => by simp [cnt] at h
  | m :: l, x :: v, i, all, t, h => by
    unfold cnt at h
    split at h
    · rw [cnt_len l v _ _ t h]; simp [stepR]
    · cases h
theorem keepR_take (all : List S42) (m : Nat) (h : m < all.length) : keepR (all.take (m + 1)) = if totR (rd_T42 all (m : Int)) > 0 then keepR (all.take m) ++ [rd_T42 all (m : Int)] else keepR (all.take m) := by
  have e : rd_T42 all (m : Int) = all[m] := by simp [rd_T42, h]
  rw [e, ← List.take_append_getElem h]
  unfold keepR
  rw [List.filter_append]
  by_cases h1 : totR all[m] > 0
  · rw [if_pos h1, List.filter_cons_of_pos (by simpa using h1)]; rfl
  · rw [if_neg h1, List.filter_cons_of_neg (by simpa using h1)]; simp
theorem keepR_len (all : List S42) : (keepR all).length ≤ all.length := List.length_filter_le _ _
end Go.Proofs.Ytcmknnhhbcgoiaa.QN
