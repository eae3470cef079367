/- The kit's walk ('wp') through a region that begins with a select of one case and a default: each way is one step of the machine. -/
import Derived.Conc.LoneSelect
import Derived.Conc.LoneSelectN
import Derived.Tactics
namespace Go.Proofs.Ytkohkcnajddcoaa.QN
open Go Go.Conc
section
variable {P : Program} {b : Frame} {a : Act} {k : List Item} {cs : List Frame} {w : World}
theorem stepG_comm_any {ops : Array Oper} {i : Nat} {rest : List Nat} {o : Oper} {cases : Array CommCase} {blocking : Bool} {shape : CommShape} {w' : World} (ho : ops[i]? = some o) (hw : Region.wanted o (yielded ops a.tmps) = true)
    (hr : (execOp a.eval o).run P w = .ok (.comm cases blocking shape) w') :
    ∃ es, stepG P true (G (b.at a (.inRegion ops (i :: rest) :: k)) cs) w = .comm (G (b.at a (.inRegion ops (i :: rest) :: k)) cs) cases blocking shape w' es := by
  have h := stepG_op (P := P) (b := b) (k := k) (cs := cs) (w := w) (rest := rest) ho hw
  simp only [stepG.apply, Sem.runT_eq, hr, GStep.after] at h
  exact ⟨_, h⟩
end
theorem range_one (n : Nat) : List.range (n + 1) = 0 :: List.range' 1 n := by
  rw [List.range_eq_range', List.range'_succ]
theorem wp_sel_core {P : Program} {id : Nat} {o : Oper} {l : List Oper} {Q : Exit → Act → World → Prop} {a : Act} {w w₁ w' : World} {v : Value} {cases : Array CommCase} {blocking : Bool} {shape : CommShape}
    (hg : o.guard = none) (hr : (execOp a.eval o).run P w = .ok (.comm cases blocking shape) w₁)
    (hstep : ∀ (fr : Frame) (cs : List Frame) (es : Array Event), stepG P true (G fr cs) w = .comm (G fr cs) cases blocking shape w₁ es → step P (solo (G fr cs) w) = .next (solo (G (fr.finish v) cs) w'))
    (h : wpList P (o :: l).toArray Q l (a.put o.dst v) w') : (Code.region id (o :: l).toArray false).wp P Q a w := by
  intro b k cs
  have he := wpOps_eq_wpList (P := P) (ops := (o :: l).toArray) (Q := Q) l 1 (fun j => by simp [Nat.add_comm])
  rw [← he] at h
  obtain ⟨e, a', w'', q, r⟩ := wp_ops _ _ _ h b k cs
  refine ⟨e, a', w'', q, .of_steps (.head (step_region (P := P)) (.one ?_)) r⟩
  have hw : Region.wanted o (yielded (o :: l).toArray a.tmps) = true := by simp [Region.wanted, hg]
  have hsz : List.range (o :: l).toArray.size = 0 :: List.range' 1 l.length := by rw [List.size_toArray, List.length_cons, range_one]
  rw [hsz]
  obtain ⟨es, hs⟩ := stepG_comm_any (P := P) (b := b) (k := k) (cs := cs) (rest := List.range' 1 l.length) (ops := (o :: l).toArray) (i := 0) (o := o) (by simp) hw hr
  have := hstep _ _ _ hs
  rw [Frame.finish_at] at this
  rw [lone_eq_solo, lone_eq_solo]
  simpa using this
section
variable {P : Program} {id : Nat} {o : Oper} {l : List Oper} {Q : Exit → Act → World → Prop} {a : Act} {w : World} {c cap s r : Nat} {buf : Array Value} {z v : Value} {closed : Bool}
theorem wp_sel_take (hg : o.guard = none) (hr : (execOp a.eval o).run P w = .ok (.comm #[rcase c z] false .select) w) (hc : w.heap[c]? = some (.chan cap buf closed s r false)) (hsome : 0 < buf.size)
    (h : wpList P (o :: l).toArray Q l (a.put o.dst (.tuple #[goInt 0, .bool true, buf.getD 0 undef])) (w.setChan c cap (buf.extract 1 buf.size) closed s (r + 1) false)) : (Code.region id (o :: l).toArray false).wp P Q a w :=
  wp_sel_core hg hr (fun _ _ _ hs => step_lone_select_recv_buf hs hc hsome) h
theorem wp_sel_shut (hg : o.guard = none) (hr : (execOp a.eval o).run P w = .ok (.comm #[rcase c z] false .select) w) (hc : w.heap[c]? = some (.chan cap #[] true s r false))
    (h : wpList P (o :: l).toArray Q l (a.put o.dst (.tuple #[goInt 0, .bool false, z])) w) : (Code.region id (o :: l).toArray false).wp P Q a w :=
  wp_sel_core hg hr (fun _ _ _ hs => step_lone_select_recv_shut hs hc) h
theorem wp_sel_none (hg : o.guard = none) (hr : (execOp a.eval o).run P w = .ok (.comm #[rcase c z] false .select) w) (hc : w.heap[c]? = some (.chan cap #[] false s r false))
    (h : wpList P (o :: l).toArray Q l (a.put o.dst (.tuple #[goInt (-1), .bool false, z])) w) : (Code.region id (o :: l).toArray false).wp P Q a w :=
  wp_sel_core hg hr (fun _ _ _ hs => step_lone_select_default hs hc) h
theorem wp_sel_put (hg : o.guard = none) (hr : (execOp a.eval o).run P w = .ok (.comm #[scase c v z] false .select) w) (hc : w.heap[c]? = some (.chan cap buf false s r false)) (hroom : buf.size < cap)
    (h : wpList P (o :: l).toArray Q l (a.put o.dst (.tuple #[goInt 0, .bool false])) (w.setChan c cap (buf.push v) false (s + 1) r false)) : (Code.region id (o :: l).toArray false).wp P Q a w :=
  wp_sel_core hg hr (fun _ _ _ hs => step_lone_select_send_room hs hc hroom) h
theorem wp_sel_full (hg : o.guard = none) (hr : (execOp a.eval o).run P w = .ok (.comm #[scase c v z] false .select) w) (hc : w.heap[c]? = some (.chan cap buf false s r false)) (hfull : cap ≤ buf.size)
    (h : wpList P (o :: l).toArray Q l (a.put o.dst (.tuple #[goInt (-1), .bool false])) w) : (Code.region id (o :: l).toArray false).wp P Q a w :=
  wp_sel_core hg hr (fun _ _ _ hs => step_lone_select_send_full hs hc hfull) h
end
#print axioms wp_sel_take
end Go.Proofs.Ytkohkcnajddcoaa.QN
