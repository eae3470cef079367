/- Part 6 of a machine for Go's pure part and of walks on it. -/
import Derived.Test.YtlogfeflmlfghaaGreatM5
import Derived.Laws.MakeOwn
import Derived.Orders
open Nat renaming reduceEqDiff → nA,reduceAdd → nB,reduceLeDiff → nC,reduceLT → nD,reduceMul → nE
open Int renaming reduceBEq → iA,reduceBNe → iB,reduceLT → iC,reduceLE → iD,reduceGT → iE,reduceGE → iF
set_option maxRecDepth 100000
set_option linter.unusedSimpArgs false
set_option linter.unusedVariables false
set_option linter.unusedSectionVars false
namespace Go.Am
open Go Go.RowKit
variable {P:Program}
theorem lt_of_some {α:Type} {l:List α} {i:Nat} {x:α} (h:l[i]?=some x):i<l.length:=(List.getElem?_eq_some_iff.1 h).1
theorem Ob.low_le {n m:Nat} (h:n≤m) {o:Ob} (ho:o.low n=true):o.low m=true:=by
 cases o with
 | cells cs=>exact lowL_le h ho
 | map es=>rfl
theorem upd_eq {f a v}:upd f a v a=v:=by unfold upd;rw[if_pos rfl]
theorem upd_ne {f a v i} (h:i≠a):upd f a v i=f i:=by unfold upd;rw[if_neg h]
theorem AR.lowL {C w cs b n m} (h:AR C w cs b n) (hm:∀ r b,C.m r=some b→r<m):AV.lowL m cs=true:=by
 obtain⟨us,-,h2,-⟩:=h
 exact VL_low hm h2
theorem Rel.world {base C s w w'} (R:Rel base C s w) (hs:w.heap.size≤w'.heap.size) (hw:∀ k,k<w.heap.size→w'.heap[k]?=w.heap[k]?):Rel base C s w':=by
 have M:Mv s.objs.length C w C w':=Mv.world R (q:=none) (fun b h=>by cases h) (fun k hk _=>hw k hk) _
 refine⟨Nat.le_trans R.szb hs,fun r b h=>?_,fun a b h=>?_,fun b h hh=>?_,R.mm,R.aa,R.mx,R.mh,R.ah,R.nx,fun r o b ho hm=>?_,fun a cs b ha hm=>?_,R.clo⟩
 ·obtain⟨h1,h2,h3⟩:=R.mlt r b h;exact⟨h1,by omega,h3⟩
 ·obtain⟨h1,h2,h3⟩:=R.alt a b h;exact⟨h1,by omega,h3⟩
 ·have:=R.hlt b h hh;omega
 ·exact OR_mv M (R.clo r o ho) (hw b (R.mlt r b hm).2.1) (R.obj r o b ho hm)
 ·have h1:=R.ar a cs b ha hm
  exact AR_mv M (h1.lowL (fun r b h=>(R.mlt r b h).1)) (hw b (R.alt a b hm).2.1) h1
theorem Mv.world0 {base C s w w'} (R:Rel base C s w) (hw:∀ k,k<w.heap.size→w'.heap[k]?=w.heap[k]?) (n:Nat):Mv n C w C w':=Mv.world R (q:=none) (fun b h=>by cases h) (fun k hk _=>hw k hk) n
theorem Rel.kill {base C s w} (R:Rel base C s w) (a:Nat):Rel base C { s with arr:=upd s.arr a none } w:=by
 have key:∀ i,upd s.arr a none i≠none→s.arr i≠none∧upd s.arr a none i=s.arr i:=by
  intro i h
  by_cases hi:i=a
  ·subst hi;rw[upd_eq] at h;exact absurd rfl h
  ·rw[upd_ne hi] at h ⊢;exact⟨h,rfl⟩
 refine⟨R.szb,R.mlt,R.alt,R.hlt,R.mm,fun i j b h1 h2 h3 h4=>R.aa i j b h1 h2 (key i h3).1 (key j h4).1,fun r i b h1 h2=>?_,R.mh,fun i b h1 h2=>R.ah i b h1 (key i h2).1,fun i hi=>?_,R.obj,fun i cs b h1 h2=>?_,R.clo⟩
 ·show upd s.arr a none i=none
  by_cases hi:i=a
  ·subst hi;rw[upd_eq]
  ·rw[upd_ne hi];exact R.mx r i b h1 h2
 ·show upd s.arr a none i=none
  by_cases hq:i=a
  ·subst hq;rw[upd_eq]
  ·rw[upd_ne hq];exact R.nx i hi
 ·have h3:upd s.arr a none i=some cs:=h1
  have:=(key i (by rw[h3];intro h;cases h)).2
  exact R.ar i cs b (by rw[←this];exact h3) h2
def Cx.box (C:Cx) (r b:Nat):Cx:={ C with m:=fun i=>if i=r then some b else C.m i }
def Cx.array (C:Cx) (a b cp az:Nat):Cx:={ C with ma:=fun i=>if i=a then some b else C.ma i,cp:=fun i=>if i=a then cp else C.cp i,az:=fun i=>if i=a then az else C.az i }
def Cx.done (C:Cx) (b h:Nat):Cx:={ C with hc:=fun i=>if i=b then some h else C.hc i }
theorem Rel.newBox {base C s w w' o} (R:Rel base C s w) (hs:w.heap.size<w'.heap.size) (hw:∀ k,k<w.heap.size→w'.heap[k]?=w.heap[k]?) (ho:OR (C.box s.objs.length w.heap.size) w' o w.heap.size) (hl:o.low (s.objs.length+1)=true) :
  Rel base (C.box s.objs.length w.heap.size) (newOb s o) w'∧Mv s.objs.length C w (C.box s.objs.length w.heap.size) w':=by
 have M0:Mv s.objs.length C w C w':=Mv.world0 R hw _
 have M:Mv s.objs.length C w (C.box s.objs.length w.heap.size) w':=⟨fun r b hr hb=>by
  show (if r=s.objs.length then _ else _)=_
  rw[if_neg (by omega)];exact hb,M0.ma,M0.hc⟩
 have R':=R.world (Nat.le_of_lt hs) hw
 have hm:∀ r b,(C.box s.objs.length w.heap.size).m r=some b→(r=s.objs.length∧b=w.heap.size)∨(r≠s.objs.length∧C.m r=some b):=by
  intro r b h
  by_cases hr:r=s.objs.length
  ·replace h:(if r=s.objs.length then some w.heap.size else C.m r)=some b:=h
   rw[if_pos hr] at h;injection h with h;exact .inl ⟨hr,h.symm⟩
  ·replace h:(if r=s.objs.length then some w.heap.size else C.m r)=some b:=h
   rw[if_neg hr] at h;exact .inr ⟨hr,h⟩
 refine⟨⟨R'.szb,fun r b h=>?_,fun a b h=>R'.alt a b h,R'.hlt,fun r r' b h1 h2=>?_,R.aa,fun r a b h1 h2=>?_,fun r b h=>?_,R.ah,R.nx,fun r oo b h1 h2=>?_,fun a cs b h1 h2=>?_,fun r oo h=>?_⟩,M⟩
 ·show r<(s.objs++[o]).length∧_
  rw[List.length_append]
  rcases hm r b h with ⟨rfl,rfl⟩|⟨h1,h2⟩
  ·exact⟨by simp,hs,R.szb⟩
  ·obtain⟨q1,q2,q3⟩:=R'.mlt r b h2;exact⟨by simp;omega,q2,q3⟩
 ·rcases hm r b h1 with ⟨rfl,rfl⟩|⟨g1,g2⟩
  ·rcases hm r' _ h2 with ⟨rfl,-⟩|⟨k1,k2⟩
   ·rfl
   ·have:=(R.mlt r' _ k2).2.1;omega
  ·rcases hm r' b h2 with ⟨rfl,rfl⟩|⟨k1,k2⟩
   ·have:=(R.mlt r _ g2).2.1;omega
   ·exact R.mm r r' b g2 k2
 ·rcases hm r b h1 with ⟨rfl,rfl⟩|⟨g1,g2⟩
  ·have:=(R.alt a _ h2).2.1;omega
  ·exact R.mx r a b g2 h2
 ·rcases hm r b h with ⟨rfl,rfl⟩|⟨g1,g2⟩
  ·show C.hc _=none
   cases hh:C.hc w.heap.size with
   | none=>rfl
   | some q=>have:=R.hlt _ _ hh;omega
  ·exact R.mh r b g2
 ·rcases hm r b h2 with ⟨rfl,rfl⟩|⟨g1,g2⟩
  ·have e:(s.objs++[o])[s.objs.length]?=some o:=by simp
   replace h1:(s.objs++[o])[s.objs.length]?=some oo:=h1
   rw[e] at h1
   injection h1 with h1
   subst h1
   exact ho
  ·have hr:=(R.mlt r b g2).1
   replace h1:(s.objs++[o])[r]?=some oo:=h1
   rw[List.getElem?_append_left hr] at h1
   exact OR_mv M (R.clo r oo h1) (hw b (R.mlt r b g2).2.1) (R.obj r oo b h1 g2)
 ·have q:=R.ar a cs b h1 h2
  exact AR_mv M (q.lowL (fun r b h=>(R.mlt r b h).1)) (hw b (R.alt a b h2).2.1) q
 ·show oo.low (s.objs++[o]).length=true
  rw[List.length_append]
  replace h:(s.objs++[o])[r]?=some oo:=h
  by_cases hr:r<s.objs.length
  ·rw[List.getElem?_append_left hr] at h
   exact Ob.low_le (by simp) (R.clo r oo h)
  ·rw[List.getElem?_append_right (by omega)] at h
   have:r - s.objs.length=0:=by
    have:=lt_of_some h
    simp at this
    omega
   rw[this] at h
   injection h with h
   subst h
   exact hl
theorem Rel.newArray {base C s w w' cs cp az} (R:Rel base C s w) (hs:w.heap.size<w'.heap.size) (hw:∀ k,k<w.heap.size→w'.heap[k]?=w.heap[k]?) (ho:AR (C.array s.nxt w.heap.size cp az) w' cs w.heap.size (cp*az)) :
  Rel base (C.array s.nxt w.heap.size cp az) (newAr s cs) w'∧Mv s.objs.length C w (C.array s.nxt w.heap.size cp az) w':=by
 have M0:Mv s.objs.length C w C w':=Mv.world0 R hw _
 have hne:∀ a b,C.ma a=some b→a≠s.nxt:=fun a b h e=>by have:=(R.alt a b h).1;omega
 have M:Mv s.objs.length C w (C.array s.nxt w.heap.size cp az) w':=⟨M0.m,fun a b h=>by
  have:=hne a b h
  refine⟨?_,?_,?_⟩
  ·show (if a=s.nxt then _ else _)=_;rw[if_neg this];exact h
  ·show (if a=s.nxt then _ else _)=_;rw[if_neg this]
  ·show (if a=s.nxt then _ else _)=_;rw[if_neg this],M0.hc⟩
 have R':=R.world (Nat.le_of_lt hs) hw
 have hm:∀ a b,(C.array s.nxt w.heap.size cp az).ma a=some b→(a=s.nxt∧b=w.heap.size)∨(a≠s.nxt∧C.ma a=some b):=by
  intro a b h
  replace h:(if a=s.nxt then some w.heap.size else C.ma a)=some b:=h
  by_cases hr:a=s.nxt
  ·rw[if_pos hr] at h;injection h with h;exact .inl ⟨hr,h.symm⟩
  ·rw[if_neg hr] at h;exact .inr ⟨hr,h⟩
 refine⟨⟨R'.szb,R'.mlt,fun a b h=>?_,R'.hlt,R.mm,fun a a' b h1 h2 h3 h4=>?_,fun r a b h1 h2=>?_,R.mh,fun a b h1 h2=>?_,fun a ha=>?_,fun r oo b h1 h2=>?_,fun a cs' b h1 h2=>?_,R.clo⟩,M⟩
 ·show a<s.nxt+1∧_
  rcases hm a b h with ⟨rfl,rfl⟩|⟨h1,h2⟩
  ·exact⟨by omega,hs,R.szb⟩
  ·obtain⟨q1,q2,q3⟩:=R'.alt a b h2;exact⟨by omega,q2,q3⟩
 ·replace h3:upd s.arr s.nxt (some cs) a≠none:=h3
  replace h4:upd s.arr s.nxt (some cs) a'≠none:=h4
  rcases hm a b h1 with ⟨rfl,rfl⟩|⟨g1,g2⟩
  ·rcases hm a' _ h2 with ⟨rfl,-⟩|⟨k1,k2⟩
   ·rfl
   ·have:=(R.alt a' _ k2).2.1;omega
  ·rcases hm a' b h2 with ⟨rfl,rfl⟩|⟨k1,k2⟩
   ·have:=(R.alt a _ g2).2.1;omega
   ·rw[upd_ne g1] at h3
    rw[upd_ne k1] at h4
    exact R.aa a a' b g2 k2 h3 h4
 ·show upd s.arr s.nxt (some cs) a=none
  rcases hm a b h2 with ⟨rfl,rfl⟩|⟨g1,g2⟩
  ·have:=(R.mlt r _ h1).2.1;omega
  ·rw[upd_ne g1];exact R.mx r a b h1 g2
 ·replace h2:upd s.arr s.nxt (some cs) a≠none:=h2
  rcases hm a b h1 with ⟨rfl,rfl⟩|⟨g1,g2⟩
  ·show C.hc _=none
   cases hh:C.hc w.heap.size with
   | none=>rfl
   | some q=>have:=R.hlt _ _ hh;omega
  ·rw[upd_ne g1] at h2;exact R.ah a b g2 h2
 ·show upd s.arr s.nxt (some cs) a=none
  replace ha:s.nxt+1≤a:=ha
  rw[upd_ne (by omega)]
  exact R.nx a (by omega)
 ·exact OR_mv M (R.clo r oo h1) (hw b (R.mlt r b h2).2.1) (R.obj r oo b h1 h2)
 ·replace h1:upd s.arr s.nxt (some cs) a=some cs':=h1
  rcases hm a b h2 with ⟨rfl,rfl⟩|⟨g1,g2⟩
  ·rw[upd_eq] at h1
   injection h1 with h1
   subst h1
   show AR _ w' _ _ ((if s.nxt=s.nxt then cp else C.cp s.nxt)*(if s.nxt=s.nxt then az else C.az s.nxt))
   rw[if_pos rfl,if_pos rfl]
   exact ho
  ·rw[upd_ne g1] at h1
   have q:=R.ar a cs' b h1 g2
   show AR _ w' _ _ ((if a=s.nxt then cp else C.cp a)*(if a=s.nxt then az else C.az a))
   rw[if_neg g1,if_neg g1]
   exact AR_mv M (q.lowL (fun r b h=>(R.mlt r b h).1)) (hw b (R.alt a b g2).2.1) q
theorem Rel.setBox {base C s w w' r o b} (R:Rel base C s w) (hb:C.m r=some b) (hs:w.heap.size≤w'.heap.size) (hw:∀ k,k<w.heap.size→k≠b→w'.heap[k]?=w.heap[k]?) (ho:OR C w' o b) (hl:o.low s.objs.length=true) :
  Rel base C { s with objs:=s.objs.set r o } w'∧Mv s.objs.length C w C w':=by
 have M:Mv s.objs.length C w C w':=Mv.world R (q:=some b) (fun b' h=>by injection h with h;subst h;exact R.mh r b hb) (fun k hk hn=>hw k hk (fun e=>hn (by rw[e]))) _
 refine⟨⟨Nat.le_trans R.szb hs,fun r' b' h=>?_,fun a b' h=>?_,fun b' h hh=>?_,R.mm,R.aa,R.mx,R.mh,R.ah,R.nx,fun r' oo b' h1 h2=>?_,fun a cs b' h1 h2=>?_,fun r' oo h=>?_⟩,M⟩
 ·show r'<(s.objs.set r o).length∧_
  rw[List.length_set]
  obtain⟨h1,h2,h3⟩:=R.mlt r' b' h;exact⟨h1,by omega,h3⟩
 ·obtain⟨h1,h2,h3⟩:=R.alt a b' h;exact⟨h1,by omega,h3⟩
 ·have:=R.hlt b' h hh;omega
 ·replace h1:(s.objs.set r o)[r']?=some oo:=h1
  by_cases hr:r'=r
  ·subst hr
   rw[hb] at h2
   injection h2 with h2
   subst h2
   rw[List.getElem?_set_self (R.mlt r' b hb).1] at h1
   injection h1 with h1
   subst h1
   exact ho
  ·rw[List.getElem?_set_ne (Ne.symm hr)] at h1
   refine OR_mv M (R.clo r' oo h1) (hw b' (R.mlt r' b' h2).2.1 (fun e=>?_)) (R.obj r' oo b' h1 h2)
   subst e
   exact hr (R.mm r' r b' h2 hb)
 ·have q:=R.ar a cs b' h1 h2
  refine AR_mv M (q.lowL (fun r b h=>(R.mlt r b h).1)) (hw b' (R.alt a b' h2).2.1 (fun e=>?_)) q
  subst e
  have:=R.mx r a b' hb h2
  replace h1:s.arr a=some cs:=h1
  rw[h1] at this
  cases this
 ·show oo.low (s.objs.set r o).length=true
  rw[List.length_set]
  replace h:(s.objs.set r o)[r']?=some oo:=h
  by_cases hr:r=r'
  ·subst hr
   rw[List.getElem?_set_self (R.mlt r b hb).1] at h
   injection h with h
   subst h
   exact hl
  ·rw[List.getElem?_set_ne hr] at h
   exact R.clo r' oo h
theorem Rel.setArray {base C s w w' a cs b} (R:Rel base C s w) (hb:C.ma a=some b) (hlive:s.arr a≠none) (hs:w.heap.size≤w'.heap.size) (hw:∀ k,k<w.heap.size→k≠b→w'.heap[k]?=w.heap[k]?) (ho:AR C w' cs b (C.cp a*C.az a)) :
  Rel base C { s with arr:=upd s.arr a (some cs) } w'∧Mv s.objs.length C w C w':=by
 have M:Mv s.objs.length C w C w':=Mv.world R (q:=some b) (fun b' h=>by injection h with h;subst h;exact R.ah a b hb hlive) (fun k hk hn=>hw k hk (fun e=>hn (by rw[e]))) _
 have key:∀ i,upd s.arr a (some cs) i≠none→s.arr i≠none:=by
  intro i h
  by_cases hi:i=a
  ·subst hi;exact hlive
  ·rw[upd_ne hi] at h;exact h
 refine⟨⟨Nat.le_trans R.szb hs,fun r' b' h=>?_,fun a b' h=>?_,fun b' h hh=>?_,R.mm,fun i j b' h1 h2 h3 h4=>R.aa i j b' h1 h2 (key i h3) (key j h4),fun r i b' h1 h2=>?_,R.mh,fun i b' h1 h2=>R.ah i b' h1 (key i h2),fun i hi=>?_,fun r' oo b' h1 h2=>?_,fun i cs' b' h1 h2=>?_,R.clo⟩,M⟩
 ·obtain⟨h1,h2,h3⟩:=R.mlt r' b' h;exact⟨h1,by omega,h3⟩
 ·obtain⟨h1,h2,h3⟩:=R.alt a b' h;exact⟨h1,by omega,h3⟩
 ·have:=R.hlt b' h hh;omega
 ·show upd s.arr a (some cs) i=none
  have h3:=R.mx r i b' h1 h2
  rw[upd_ne (fun e=>by subst e;exact hlive h3)]
  exact h3
 ·show upd s.arr a (some cs) i=none
  rw[upd_ne (fun e=>by subst e;exact hlive (R.nx i hi))]
  exact R.nx i hi
 ·refine OR_mv M (R.clo r' oo h1) (hw b' (R.mlt r' b' h2).2.1 (fun e=>?_)) (R.obj r' oo b' h1 h2)
  subst e
  exact hlive (R.mx r' a b' h2 hb)
 ·replace h1:upd s.arr a (some cs) i=some cs':=h1
  by_cases hi:i=a
  ·subst hi
   rw[hb] at h2
   injection h2 with h2
   subst h2
   rw[upd_eq] at h1
   injection h1 with h1
   subst h1
   exact ho
  ·rw[upd_ne hi] at h1
   have q:=R.ar i cs' b' h1 h2
   refine AR_mv M (q.lowL (fun r b h=>(R.mlt r b h).1)) (hw b' (R.alt i b' h2).2.1 (fun e=>?_)) q
   subst e
   exact hi (R.aa i a b' h2 hb (by rw[h1];intro h;cases h) hlive)
theorem Rel.again {base C s w w' a cs b} (R:Rel base C s w) (hb:C.ma a=some b) (hlive:s.arr a≠none) (hs:w.heap.size≤w'.heap.size) (hw:∀ k,k<w.heap.size→k≠b→w'.heap[k]?=w.heap[k]?)
  (ho:AR (C.array s.nxt b (C.cp a) (C.az a)) w' cs b (C.cp a*C.az a)) :
  Rel base (C.array s.nxt b (C.cp a) (C.az a)) (newAr { s with arr:=upd s.arr a none } cs) w'∧Mv s.objs.length C w (C.array s.nxt b (C.cp a) (C.az a)) w':=by
 have M0:Mv s.objs.length C w C w':=Mv.world R (q:=some b) (fun b' h=>by injection h with h;subst h;exact R.ah a b hb hlive) (fun k hk hn=>hw k hk (fun e=>hn (by rw[e]))) _
 have hne:∀ i b',C.ma i=some b'→i≠s.nxt:=fun i b' h e=>by have:=(R.alt i b' h).1;omega
 have han:=hne a b hb
 have M:Mv s.objs.length C w (C.array s.nxt b (C.cp a) (C.az a)) w':=⟨M0.m,fun i b' h=>by
  have:=hne i b' h
  refine⟨?_,?_,?_⟩
  ·show (if i=s.nxt then _ else _)=_;rw[if_neg this];exact h
  ·show (if i=s.nxt then _ else _)=_;rw[if_neg this]
  ·show (if i=s.nxt then _ else _)=_;rw[if_neg this],M0.hc⟩
 have hm:∀ i b',(C.array s.nxt b (C.cp a) (C.az a)).ma i=some b'→(i=s.nxt∧b'=b)∨(i≠s.nxt∧C.ma i=some b'):=by
  intro i b' h
  replace h:(if i=s.nxt then some b else C.ma i)=some b':=h
  by_cases hr:i=s.nxt
  ·rw[if_pos hr] at h;injection h with h;exact .inl ⟨hr,h.symm⟩
  ·rw[if_neg hr] at h;exact .inr ⟨hr,h⟩
 have harr:∀ i,i≠s.nxt→upd (upd s.arr a none) s.nxt (some cs) i≠none→i≠a∧s.arr i≠none∧upd (upd s.arr a none) s.nxt (some cs) i=s.arr i:=by
  intro i h1 h2
  rw[upd_ne h1] at h2 ⊢
  by_cases hi:i=a
  ·subst hi;rw[upd_eq] at h2;exact absurd rfl h2
  ·rw[upd_ne hi] at h2 ⊢;exact⟨hi,h2,rfl⟩
 refine⟨⟨Nat.le_trans R.szb hs,fun r' b' h=>?_,fun i b' h=>?_,fun b' h hh=>?_,R.mm,fun i j b' h1 h2 h3 h4=>?_,fun r i b' h1 h2=>?_,R.mh,fun i b' h1 h2=>?_,fun i hi=>?_,fun r' oo b' h1 h2=>?_,fun i cs' b' h1 h2=>?_,R.clo⟩,M⟩
 ·obtain⟨h1,h2,h3⟩:=R.mlt r' b' h;exact⟨h1,by omega,h3⟩
 ·show i<s.nxt+1∧_
  rcases hm i b' h with ⟨rfl,rfl⟩|⟨h1,h2⟩
  ·obtain⟨q1,q2,q3⟩:=R.alt a _ hb;exact⟨by omega,by omega,q3⟩
  ·obtain⟨q1,q2,q3⟩:=R.alt i b' h2;exact⟨by omega,by omega,q3⟩
 ·have:=R.hlt b' h hh;omega
 ·replace h3:upd (upd s.arr a none) s.nxt (some cs) i≠none:=h3
  replace h4:upd (upd s.arr a none) s.nxt (some cs) j≠none:=h4
  rcases hm i b' h1 with ⟨rfl,rfl⟩|⟨g1,g2⟩
  ·rcases hm j _ h2 with ⟨rfl,-⟩|⟨k1,k2⟩
   ·rfl
   ·obtain⟨q1,q2,q3⟩:=harr j k1 h4
    exact absurd (R.aa j a _ k2 hb q2 hlive) q1
  ·rcases hm j b' h2 with ⟨rfl,rfl⟩|⟨k1,k2⟩
   ·obtain⟨q1,q2,q3⟩:=harr i g1 h3
    exact absurd (R.aa i a _ g2 hb q2 hlive) q1
   ·exact R.aa i j b' g2 k2 (harr i g1 h3).2.1 (harr j k1 h4).2.1
 ·show upd (upd s.arr a none) s.nxt (some cs) i=none
  rcases hm i b' h2 with ⟨rfl,rfl⟩|⟨g1,g2⟩
  ·exact absurd (R.mx r a _ h1 hb) hlive
  ·rw[upd_ne g1]
   by_cases hi:i=a
   ·subst hi;rw[upd_eq]
   ·rw[upd_ne hi];exact R.mx r i b' h1 g2
 ·replace h2:upd (upd s.arr a none) s.nxt (some cs) i≠none:=h2
  rcases hm i b' h1 with ⟨rfl,rfl⟩|⟨g1,g2⟩
  ·exact R.ah a _ hb hlive
  ·exact R.ah i b' g2 (harr i g1 h2).2.1
 ·show upd (upd s.arr a none) s.nxt (some cs) i=none
  replace hi:s.nxt+1≤i:=hi
  rw[upd_ne (by omega)]
  by_cases hq:i=a
  ·subst hq;rw[upd_eq]
  ·rw[upd_ne hq];exact R.nx i (by omega)
 ·refine OR_mv M (R.clo r' oo h1) (hw b' (R.mlt r' b' h2).2.1 (fun e=>?_)) (R.obj r' oo b' h1 h2)
  subst e
  exact hlive (R.mx r' a b' h2 hb)
 ·replace h1:upd (upd s.arr a none) s.nxt (some cs) i=some cs':=h1
  rcases hm i b' h2 with ⟨rfl,rfl⟩|⟨g1,g2⟩
  ·rw[upd_eq] at h1
   injection h1 with h1
   subst h1
   show AR _ w' _ _ ((if s.nxt=s.nxt then C.cp a else C.cp s.nxt)*(if s.nxt=s.nxt then C.az a else C.az s.nxt))
   rw[if_pos rfl,if_pos rfl]
   exact ho
  ·obtain⟨q1,q2,q3⟩:=harr i g1 (by rw[h1];intro h;cases h)
   rw[q3] at h1
   have q:=R.ar i cs' b' h1 g2
   show AR _ w' _ _ ((if i=s.nxt then C.cp a else C.cp i)*(if i=s.nxt then C.az a else C.az i))
   rw[if_neg g1,if_neg g1]
   refine AR_mv M (q.lowL (fun r b h=>(R.mlt r b h).1)) (hw b' (R.alt i b' g2).2.1 (fun e=>?_)) q
   subst e
   exact q1 (R.aa i a _ g2 hb q2 hlive)
theorem Rel.finish {base C s w a b h} (R:Rel base C s w) (hb:C.ma a=some b) (hlive:s.arr a≠none) :
  Rel base (C.done b h) { s with arr:=upd s.arr a none } w∧Mv s.objs.length C w (C.done b h) w:=by
 have hn:=R.ah a b hb hlive
 have M:Mv s.objs.length C w (C.done b h) w:=⟨fun _ _ _ h=>h,fun _ _ h=>⟨h,rfl,rfl⟩,fun b' h' hh=>⟨by
  show (if b'=b then _ else _)=_
  rw[if_neg (fun e=>by subst e;rw[hn] at hh;cases hh)]
  exact hh,fun _ _=>rfl⟩⟩
 have K:=R.kill a
 have hc:∀ b' q,(C.done b h).hc b'=some q→b'=b∨C.hc b'=some q:=by
  intro b' q hq
  replace hq:(if b'=b then some h else C.hc b')=some q:=hq
  by_cases e:b'=b
  ·exact .inl e
  ·rw[if_neg e] at hq;exact .inr hq
 refine⟨⟨R.szb,R.mlt,R.alt,fun b' q hq=>?_,R.mm,K.aa,K.mx,fun r b' hr=>?_,fun i b' h1 h2=>?_,K.nx,fun r oo b' h1 h2=>OR_mv M (R.clo r oo h1) rfl (R.obj r oo b' h1 h2),fun i cs b' h1 h2=>?_,R.clo⟩,M⟩
 ·rcases hc b' q hq with rfl|e
  ·exact (R.alt a _ hb).2.1
  ·exact R.hlt b' q e
 ·show (if b'=b then _ else _)=_
  rw[if_neg (fun e=>by subst e;exact hlive (R.mx r a b' hr hb))]
  exact R.mh r b' hr
 ·show (if b'=b then _ else _)=_
  replace h2:upd s.arr a none i≠none:=h2
  have hi:i≠a:=fun e=>by subst e;rw[upd_eq] at h2;exact h2 rfl
  rw[upd_ne hi] at h2
  rw[if_neg (fun e=>by subst e;exact hi (R.aa i a b' h1 hb h2 hlive))]
  exact R.ah i b' h1 h2
 ·have q:=K.ar i cs b' h1 h2
  exact AR_mv M (q.lowL (fun r b h=>(R.mlt r b h).1)) rfl q
end Go.Am
namespace Go.Am
open Go Go.RowKit
variable {P:Program}
structure Gho (base:Nat) (w:World) (C:Cx) (s:St) (C':Cx) (s':St):Prop where
 rel:Rel base C' s' w
 mv:Mv s.objs.length C w C' w
 objs:s'.objs=s.objs
 m:C'.m=C.m
 ma:C'.ma=C.ma
 nxt:s'.nxt=s.nxt
theorem Gho.refl {base w C s} (R:Rel base C s w):Gho base w C s C s:=⟨R,Mv.refl _ _ _,rfl,rfl,rfl,rfl⟩
theorem Gho.trans {base w C s C1 s1 C2 s2} (h:Gho base w C s C1 s1) (k:Gho base w C1 s1 C2 s2):Gho base w C s C2 s2 :=
 ⟨k.rel,h.mv.trans (by rw[←h.objs];exact k.mv),k.objs.trans h.objs,k.m.trans h.m,k.ma.trans h.ma,k.nxt.trans h.nxt⟩
def FrzOK (base:Nat) (w:World) (f:AV→St→Option (AV × St)):Prop:=∀ C s x u y s',Rel base C s w→V C w x u→f x s=some (y,s')→∃ C',Gho base w C s C' s'∧V C' w y u
theorem frzAll_T {base w f} (hf:FrzOK base w f):∀ {xs C s us ys s'},Rel base C s w→VT C w xs us→frzAll f xs s=some (ys,s')→∃ C',Gho base w C s C' s'∧VT C' w ys us
 | [],C,s,us,ys,s',R,h,he=>by
  injection he with he
  injection he with h1 h2
  subst h1 h2
  exact⟨C,Gho.refl R,h⟩
 | x::xs,C,s,us,ys,s',R,h,he=>by
  unfold frzAll at he
  unfold VT at h
  obtain⟨u,us',rfl,h1,h2⟩:=h
  cases q1:f x s with
  | none=>rw[q1] at he;cases he
  | some p =>
   obtain⟨y,s1⟩:=p
   rw[q1] at he
   dsimp only at he
   obtain⟨C1,g1,v1⟩:=hf _ _ _ _ _ _ R h1 q1
   have h2':VT C1 w xs us':=VT_mv g1.mv (VT_low (fun r b h=>(R.mlt r b h).1) h2) h2
   cases q2:frzAll f xs s1 with
   | none=>rw[q2] at he;cases he
   | some p =>
    obtain⟨zs,s2⟩:=p
    rw[q2] at he
    injection he with he
    injection he with e1 e2
    subst e1 e2
    obtain⟨C2,g2,v2⟩:=frzAll_T hf g1.rel h2' q2
    refine⟨C2,g1.trans g2,?_⟩
    unfold VT
    exact⟨u,us',rfl,V_mv g2.mv (g1.rel.low v1) v1,v2⟩
theorem frzAll_L {base w f} (hf:FrzOK base w f):∀ {xs C s us ys s'},Rel base C s w→VL C w xs us→frzAll f xs s=some (ys,s')→∃ C',Gho base w C s C' s'∧VL C' w ys us
 | [],C,s,us,ys,s',R,h,he=>by
  injection he with he
  injection he with h1 h2
  subst h1 h2
  exact⟨C,Gho.refl R,h⟩
 | x::xs,C,s,us,ys,s',R,h,he=>by
  unfold frzAll at he
  unfold VL at h
  obtain⟨u,us',rfl,h0,h1,h2⟩:=h
  cases q1:f x s with
  | none=>rw[q1] at he;cases he
  | some p =>
   obtain⟨y,s1⟩:=p
   rw[q1] at he
   dsimp only at he
   obtain⟨C1,g1,v1⟩:=hf _ _ _ _ _ _ R h1 q1
   have h2':VL C1 w xs us':=VL_mv g1.mv (VL_low (fun r b h=>(R.mlt r b h).1) h2) h2
   cases q2:frzAll f xs s1 with
   | none=>rw[q2] at he;cases he
   | some p =>
    obtain⟨zs,s2⟩:=p
    rw[q2] at he
    injection he with he
    injection he with e1 e2
    subst e1 e2
    obtain⟨C2,g2,v2⟩:=frzAll_L hf g1.rel h2' q2
    refine⟨C2,g1.trans g2,?_⟩
    unfold VL
    exact⟨u,us',rfl,h0,V_mv g2.mv (g1.rel.low v1) v1,v2⟩
theorem chunk_ok {C w el}:∀ {n cs us ys},VL C w cs us→chunk el n cs=some ys→ys.length=n∧AV.finL ys=true∧n*el.size≤us.length∧VS C w el.size ys (us.take (n*el.size))
 | 0,cs,us,ys,h,he=>by
  injection he with he
  subst he
  refine⟨rfl,rfl,by omega,?_⟩
  unfold VS
  simp
 | n+1,cs,us,ys,h,he=>by
  unfold chunk at he
  cases q1:el.get cs 0 with
  | none=>rw[q1] at he;cases he
  | some x =>
   rw[q1] at he
   dsimp only at he
   split at he
   ·rename_i hfin
    cases q2:chunk el n (cs.drop el.size) with
    | none=>rw[q2] at he;cases he
    | some zs =>
     rw[q2] at he
     injection he with he
     subst he
     have hd:=VL_drop el.size h
     obtain⟨g1,g2,g3,g4⟩:=chunk_ok hd q2
     have hg:=el_get_ok h q1
     rw[List.length_drop] at g3
     have hsz:∃ u,V C w x u∧u.cells.size=el.size∧us.take el.size=u.cells.toList∧el.size≤us.length:=by
      cases el with
      | one =>
       obtain⟨q,k1,k2,k3⟩:=hg
       refine⟨q,k2,?_⟩
       have hc:q.cells = #[q]:=by cases q<;>first|rfl|cases k3
       rw[hc]
       have hl:=(List.getElem?_eq_some_iff.1 k1).1
       refine⟨rfl,?_,by show 1≤_;omega⟩
       cases us with
       | nil=>cases k1
       | cons a us=>injection k1 with k1;subst k1;rfl
      | st k =>
       obtain⟨k1,k2⟩:=hg
       refine⟨_,k2,?_,?_,?_⟩
       ·show (Array.size (List.toArray _))=k
        simp
        omega
       ·show us.take k=_
        simp[Value.cells]
       ·show k≤_
        omega
     obtain⟨u,k1,k2,k3,k4⟩:=hsz
     refine⟨by simp[g1],by unfold AV.finL;rw[hfin,g2];rfl,by rw[Nat.add_mul];omega,?_⟩
     unfold VS
     refine⟨u,(us.drop el.size).take (n*el.size),?_,k2,k1,g4⟩
     rw[←k3,Nat.add_mul,Nat.one_mul,Nat.add_comm,List.take_add]
   ·cases he
theorem frz_ok {base w}:∀ n,FrzOK base w (frz n)
 | 0=>fun C s x u y s' R h he=>by cases he
 | n+1=>fun C s x u y s' R h he=>by
  have ih:=frz_ok (base:=base) (w:=w) n
  cases x
  case os a el k =>
   unfold frz at he
   unfold V at h
   obtain⟨b,h1,rfl,h3,h4⟩:=h
   cases q0:s.arr a with
   | none=>rw[q0] at he;cases he
   | some cs =>
    rw[q0] at he
    dsimp only at he
    have hlive:s.arr a≠none:=by rw[q0];intro h;cases h
    obtain⟨us,r1,r2,r3,r4,-⟩:=R.ar a cs b q0 h1
    have R0:=R.kill a
    cases q1:frzAll (frz n) (cs.take (k*el.size)) { s with arr:=upd s.arr a none } with
    | none=>rw[q1] at he;cases he
    | some p =>
     obtain⟨c,s1⟩:=p
     rw[q1] at he
     dsimp only at he
     have hfin:=R.finish (h:=k*el.size) h1 hlive
     obtain⟨Rf,Mf⟩:=hfin
     have r2':VL (C.done b (k*el.size)) w (cs.take (k*el.size)) (us.take (k*el.size)):=VL_mv Mf (VL_low (fun r b h=>(R.mlt r b h).1) (VL_take _ r2)) (VL_take _ r2)
     obtain⟨C1,g1,v1⟩:=frzAll_L ih Rf r2' q1
     cases q2:chunk el k c with
     | none=>rw[q2] at he;cases he
     | some ys =>
      rw[q2] at he
      injection he with he
      injection he with e1 e2
      subst e1 e2
      obtain⟨k1,k2,k3,k4⟩:=chunk_ok v1 q2
      refine⟨C1,⟨g1.rel,Mf.trans g1.mv,g1.objs,g1.m,g1.ma,g1.nxt⟩,?_⟩
      have hb:C1.hc b=some (k*el.size):=(g1.mv.hc b (k*el.size) (by show (if b=b then _ else _)=_;rw[if_pos rfl])).1
      have hcp:C1.cp a=C.cp a:=(g1.mv.ma a b h1).2.1
      rw[List.take_take,Nat.min_self] at k4
      unfold V
      refine⟨b,C.cp a,k*el.size,us.take (k*el.size),?_,hb,by rw[k1];exact h4,k2,?_,?_,rangeAt_take r1 _,k4⟩
      ·rw[k1]
      ·rw[k1]
       rw[List.length_take] at k3 ⊢
       omega
      ·rw[List.length_take];omega
  case agg cs =>
   unfold frz at he
   unfold V at h
   obtain⟨vs,rfl,h2⟩:=h
   cases q1:frzAll (frz n) cs s with
   | none=>rw[q1] at he;cases he
   | some p =>
    obtain⟨c,s1⟩:=p
    rw[q1] at he
    injection he with he
    injection he with e1 e2
    subst e1 e2
    obtain⟨C1,g1,v1⟩:=frzAll_L ih R h2 q1
    exact⟨C1,g1,by unfold V;exact⟨vs,rfl,v1⟩⟩
  case tup cs =>
   unfold frz at he
   unfold V at h
   obtain⟨vs,rfl,h2⟩:=h
   cases q1:frzAll (frz n) cs s with
   | none=>rw[q1] at he;cases he
   | some p =>
    obtain⟨c,s1⟩:=p
    rw[q1] at he
    injection he with he
    injection he with e1 e2
    subst e1 e2
    obtain⟨C1,g1,v1⟩:=frzAll_T ih R h2 q1
    exact⟨C1,g1,by unfold V;exact⟨vs,rfl,v1⟩⟩
  all_goals
   injection he with he
   injection he with e1 e2
   subst e1 e2
   exact⟨C,Gho.refl R,h⟩
theorem frzIf_ok {base w fz}:FrzOK base w (fun x s=>frzIf fz x s):=fun C s x u y s' R h he=>by
 replace he:frzIf fz x s=some (y,s'):=he
 unfold frzIf at he
 split at he
 ·exact frz_ok 20000 _ _ _ _ _ _ R h he
 ·injection he with he
  injection he with e1 e2
  subst e1 e2
  exact⟨C,Gho.refl R,h⟩
theorem frzAllIf_T {base w fz xs C s us ys s'} (R:Rel base C s w) (h:VT C w xs us) (he:frzAllIf fz xs s=some (ys,s')):∃ C',Gho base w C s C' s'∧VT C' w ys us:=by
 unfold frzAllIf at he
 split at he
 ·exact frzAll_T (frz_ok 20000) R h he
 ·injection he with he
  injection he with e1 e2
  subst e1 e2
  exact⟨C,Gho.refl R,h⟩
theorem frzAllIf_L {base w fz xs C s us ys s'} (R:Rel base C s w) (h:VL C w xs us) (he:frzAllIf fz xs s=some (ys,s')):∃ C',Gho base w C s C' s'∧VL C' w ys us:=by
 unfold frzAllIf at he
 split at he
 ·exact frzAll_L (frz_ok 20000) R h he
 ·injection he with he
  injection he with e1 e2
  subst e1 e2
  exact⟨C,Gho.refl R,h⟩
theorem str_beq (k j:List UInt8):((⟨⟨k⟩⟩:ByteArray)==(⟨⟨j⟩⟩:ByteArray))=(k==j):=by
 rw[beq_toListBytes,ByteArray.toList_eq,ByteArray.toList_eq]
theorem findNow_ok {C w} {k:List UInt8}:∀ {es l} (i:Nat),ME C w es l→match findE k es with
  | some v=>∃ j u m,Instr.findNow .string (.string ⟨⟨k⟩⟩) l i=some (some (i+j,u))∧V C w v u∧AV.fin v=true∧l[j]?=some m∧m.key=.string ⟨⟨k⟩⟩
  | none=>Instr.findNow .string (.string ⟨⟨k⟩⟩) l i=some none
 | [],l,i,h=>by unfold ME at h;subst h;rfl
 | (j,v)::es,l,i,h=>by
  unfold ME at h
  obtain⟨m,l',rfl,h1,h2,h3,h4⟩:=h
  unfold findE
  by_cases hk:k=j
  ·subst hk
   rw[if_pos rfl]
   refine⟨0,m.val,m,?_,h2,h3,rfl,h1⟩
   unfold Instr.findNow
   rw[h1]
   simp[Instr.sameNow,str_beq]
  ·rw[if_neg hk]
   have ih:=findNow_ok (k:=k) (i+1) h4
   have hs:Instr.sameNow .string (.string ⟨⟨k⟩⟩) m.key=some false:=by
    rw[h1]
    simp[Instr.sameNow,str_beq,hk]
   cases hf:findE k es with
   | none =>
    rw[hf] at ih
    dsimp only at ih ⊢
    unfold Instr.findNow
    rw[hs]
    exact ih
   | some v' =>
    rw[hf] at ih
    dsimp only at ih ⊢
    obtain⟨q,u,m',g1,g2,g3,g4,g5⟩:=ih
    refine⟨q+1,u,m',?_,g2,g3,g4,g5⟩
    unfold Instr.findNow
    rw[hs]
    dsimp only
    rw[g1]
    congr 3
    omega
theorem look_ok {base C s w t key e m um k uk z zv ok r} (R:Rel base C s w) (ht:P.underlying t=some (.map key e)) (hk:P.underlying key=some .string) (hm:V C w m um) (hkv:V C w k uk)
  (hz:V C w z zv) (hze:∀ w',(zeroValue e).run P w'=.ok zv w') (h:alook s z ok m k=some r):∃ q,(Instr.lookup t um uk ok).run P w=.ok q w∧V C w r q:=by
 have hck:∀ b l,(Instr.checkKey b 10000 key (.string l)).run P w=.ok () w:=by
  intro b l
  have h1:∀ n,(Instr.checkKey b (n+1) key (.string l)).run P w=.ok () w:=by
   intro n
   simp[Instr.checkKey,run_underlying hk]
  exact h1 9999
 have fin:∀ v u,V C w v u→∃ q,(if ok then Value.tuple #[u,.bool true] else u)=q∧V C w (if ok then AV.tup [v,.b true] else v) q:=by
  intro v u hv
  cases ok
  ·exact⟨u,rfl,hv⟩
  ·refine⟨_,rfl,?_⟩
   unfold V
   refine⟨_,rfl,?_⟩
   unfold VT
   refine⟨u,[.bool true],rfl,hv,?_⟩
   unfold VT
   exact⟨_,[],rfl,by unfold V;rfl,by unfold VT;rfl⟩
 have fin0:∀ v u,V C w v u→∃ q,(if ok then Value.tuple #[u,.bool false] else u)=q∧V C w (if ok then AV.tup [v,.b false] else v) q:=by
  intro v u hv
  cases ok
  ·exact⟨u,rfl,hv⟩
  ·refine⟨_,rfl,?_⟩
   unfold V
   refine⟨_,rfl,?_⟩
   unfold VT
   refine⟨u,[.bool false],rfl,hv,?_⟩
   unfold VT
   exact⟨_,[],rfl,by unfold V;rfl,by unfold VT;rfl⟩
 cases k<;>try (cases m<;>cases h;done)
 rename_i ks
 unfold V at hkv
 subst hkv
 cases m<;>try (cases h;done)
 case nm =>
  injection h with h
  subst h
  unfold V at hm
  subst hm
  obtain⟨q,g1,g2⟩:=fin0 z zv hz
  refine⟨q,?_,g2⟩
  rw[←g1]
  simp[Instr.lookup,run_underlying ht,hck,Instr.findKey,run_underlying hk,Instr.findNow,hze]
 case mp r' =>
  unfold V at hm
  obtain⟨b,h1,rfl⟩:=hm
  unfold alook at h
  dsimp only at h
  cases hob:s.objs[r']? with
  | none=>rw[hob] at h;cases h
  | some o =>
   rw[hob] at h
   cases o with
   | cells cs=>cases h
   | map es =>
    dsimp only at h
    obtain⟨l,clock,g1,g2⟩:=R.obj r' _ b hob h1
    have hfn:=findNow_ok (k:=ks) 0 g2
    have hget:(getObj b).run P w=.ok (.map l clock) w:=by simp[getObj,Sem.run,g1]
    cases hf:findE ks es with
    | none =>
     rw[hf] at h hfn
     dsimp only at h hfn
     injection h with h
     subst h
     obtain⟨q,k1,k2⟩:=fin0 z zv hz
     refine⟨q,?_,k2⟩
     rw[←k1]
     simp[Instr.lookup,run_underlying ht,hget,hck,Instr.findKey,run_underlying hk,hfn,hze]
    | some v =>
     rw[hf] at h hfn
     dsimp only at h hfn
     injection h with h
     subst h
     obtain⟨j,u,m',n1,n2,n3,n4,n5⟩:=hfn
     obtain⟨q,k1,k2⟩:=fin v u n2
     refine⟨q,?_,k2⟩
     rw[←k1]
     simp[Instr.lookup,run_underlying ht,hget,hck,Instr.findKey,run_underlying hk,n1]
end Go.Am
namespace Go.Am
open Go Go.RowKit
variable {P:Program}
theorem trB_app {b ts xs fz ao} (h:trB P b ts xs fz=some ao):(∃ s x,ao=.len s x)∨(∃ x y,ao=.min x y)∨∃ el x y t t2 e e2 z i,ao=.app el x y fz∧b=.append∧xs=some [x,y]∧ts[0]?=some t∧ts[1]?=some t2∧P.underlying t=some (.slice e)∧P.underlying t2=some (.slice e2)∧elOf P e=some el∧zOf P e=some z∧P.info? e=some i∧i.bytes≤1000∧0<el.size:=by
 unfold trB at h
 split at h
 ·split at h<;>try (cases h;done)
  split at h<;>try (cases h;done)
  ·injection h with h;exact .inl ⟨_,_,h.symm⟩
  ·injection h with h;exact .inl ⟨_,_,h.symm⟩
 ·split at h<;>try (cases h;done)
  injection h with h;exact .inr (.inl ⟨_,_,h.symm⟩)
 ·split at h<;>try (cases h;done)
  rename_i x y t t2 h1 h2
  split at h<;>try (cases h;done)
  rename_i e e2 h3 h4
  split at h<;>try (cases h;done)
  rename_i el z i h5 h6 h7
  split at h<;>try (cases h;done)
  rename_i h8
  injection h with h
  exact .inr (.inr ⟨el,x,y,t,t2,e,e2,z,i,h.symm,rfl,rfl,h1,h2,h3,h4,h5,h6,h7,h8.1,h8.2⟩)
 ·cases h
def From (P:Program) (o:Oper) (fz:Bool):AOp→Prop
 | .load el x=>∃ t y,o.op=.load t y∧elOf P t=some el∧trX y=some x
 | .look z m k ok=>∃ t m' k' key e,o.op=.lookup t m' k' ok∧P.underlying t=some (.map key e)∧P.underlying key=some .string∧zvOf P e=some z∧trX m'=some m∧trX k'=some k
 | .alloc z=>∃ t,o.op=.alloc t∧zOf P t=some z
 | .box x=>∃ t y,o.op=.box t y∧trX y=some x
 | .box0 x=>∃ t y,o.op=.box t y∧trX y=some x
 | .mkm=>∃ t,o.op=.makeMap t none
 | .bsl el z len ps=>∃ t qs e,o.op=.buildSlice t len qs∧P.underlying t=some (.slice e)∧elOf P e=some el∧zOf P e=some z∧trP (fun i=>some (i*el.size,el.size)) qs.toList=some ps∧len*el.size≤16777216∧0<el.size∧len≤most
 | .msl el z l c=>∃ t l' c' e i,o.op=.makeSlice t l' c'∧P.underlying t=some (.slice e)∧elOf P e=some el∧zOf P e=some z∧P.info? e=some i∧trX l'=some l∧trX c'=some c∧i.bytes≤1000∧0<el.size
 | .store n a x z=>∃ t a' x' i,o.op=.store t a' x'∧P.info? t=some i∧i.size=n∧trX a'=some a∧trX x'=some x∧z=fz
 | .upd m k x z=>∃ t m' k' x' key e,(o.op=.mapUpdate t m' k' x'∨o.op=.insert t m' k' x')∧P.underlying t=some (.map key e)∧P.underlying key=some .string∧trX m'=some m∧trX k'=some k∧trX x'=some x∧z=fz
 | .app el x y z=>∃ c t t2 e e2 zs i,o.op=.call c∧c.callee=.builtin .append∧trXs c.args.toList=some [x,y]∧c.argTypes[0]?=some t∧c.argTypes[1]?=some t2∧P.underlying t=some (.slice e)∧P.underlying t2=some (.slice e2)∧elOf P e=some el∧zOf P e=some zs∧P.info? e=some i∧i.bytes≤1000∧0<el.size∧z=fz
 | .call f xs z=>∃ c f',o.op=.call c∧c.callee=.value f'∧trX f'=some f∧trXs c.args.toList=some xs∧z=fz
 | _=>True
theorem from_ok {o:Oper} {ao:AOp} {fz:Bool} (hT:trOp P o fz=some ao):From P o fz ao:=by
 obtain⟨dst,op,ty,pos,after,guard⟩:=o
 cases op<;>simp only[trOp] at hT<;>try (cases hT;done)
 all_goals first
  | (cases hq:trX _ with|none=>rw[hq] at hT;cases hT|some z=>rw[hq] at hT;injection hT with hT;subst hT;first|trivial|exact⟨_,_,rfl,hq⟩)
  | skip
 case box t x=>cases hq:trX x with|none=>rw[hq] at hT;cases hT|some z=>rw[hq] at hT;injection hT with hT;subst hT;cases fz<;>exact⟨_,_,rfl,hq⟩
 case pick=>split at hT<;>first|(cases hT;done)|(injection hT with hT;subst hT;trivial)
 case alloc t=>cases hq:zOf P t with|none=>rw[hq] at hT;cases hT|some z=>rw[hq] at hT;injection hT with hT;subst hT;exact⟨t,rfl,hq⟩
 case build t ps =>
  split at hT<;>try (cases hT;done)
  split at hT<;>try (cases hT;done)
  split at hT<;>try (cases hT;done)
  injection hT with hT;subst hT;trivial
 case buildSlice t len ps =>
  split at hT<;>try (cases hT;done)
  rename_i e hu
  split at hT<;>try (cases hT;done)
  rename_i el z hel hz
  split at hT<;>try (cases hT;done)
  rename_i ps' hps
  split at hT<;>try (cases hT;done)
  rename_i hc
  injection hT with hT;subst hT
  exact⟨t,ps,e,rfl,hu,hel,hz,hps,hc.1,hc.2.1,hc.2.2⟩
 case load t x =>
  split at hT<;>try (cases hT;done)
  rename_i el x' hel hx
  injection hT with hT;subst hT
  exact⟨t,x,rfl,hel,hx⟩
 case store t a x =>
  split at hT<;>try (cases hT;done)
  rename_i i a' x' hi ha hx
  injection hT with hT;subst hT
  exact⟨t,a,x,i,rfl,hi,rfl,ha,hx,rfl⟩
 case binOp =>
  split at hT<;>try (cases hT;done)
  ·split at hT<;>first|(cases hT;done)|(injection hT with hT;subst hT;trivial)
  ·split at hT<;>first|(cases hT;done)|(injection hT with hT;subst hT;trivial)
  ·injection hT with hT;subst hT;trivial
 case convert =>
  split at hT<;>try (cases hT;done)
  cases hq:trX _ with
  | none=>rw[hq] at hT;cases hT
  | some z=>rw[hq] at hT;injection hT with hT;subst hT;trivial
 case makeFunc fn first caps =>
  cases fn<;>simp only at hT<;>try (cases hT;done)
  split at hT<;>try (cases hT;done)
  cases hq:trXs caps.toList with
  | none=>rw[hq] at hT;cases hT
  | some z=>rw[hq] at hT;injection hT with hT;subst hT;trivial
 case makeMap t rs =>
  cases rs<;>simp only at hT<;>try (cases hT;done)
  injection hT with hT;subst hT
  exact⟨t,rfl⟩
 case makeSlice t l c =>
  split at hT<;>try (cases hT;done)
  rename_i e hu
  split at hT<;>try (cases hT;done)
  rename_i el z i l' c' hel hz hi hl hc
  split at hT<;>try (cases hT;done)
  rename_i hb
  injection hT with hT;subst hT
  exact⟨t,l,c,e,i,rfl,hu,hel,hz,hi,hl,hc,hb.1,hb.2⟩
 case slice t x lo hi mx =>
  cases mx<;>simp only at hT<;>try (cases hT;done)
  split at hT<;>try (cases hT;done)
  ·injection hT with hT;subst hT;trivial
  ·split at hT<;>first|(cases hT;done)|(injection hT with hT;subst hT;trivial)
 case fieldAddr =>
  split at hT<;>try (cases hT;done)
  split at hT<;>try (cases hT;done)
  split at hT<;>first|(cases hT;done)|(injection hT with hT;subst hT;trivial)
 case field =>
  split at hT<;>try (cases hT;done)
  split at hT<;>try (cases hT;done)
  cases hq:elOf P _ with
  | none=>rw[hq] at hT;cases hT
  | some z=>rw[hq] at hT;injection hT with hT;subst hT;trivial
 case indexAddr =>
  split at hT<;>try (cases hT;done)
  split at hT<;>first|(cases hT;done)|(injection hT with hT;subst hT;trivial)
 case index=>split at hT<;>first|(cases hT;done)|(injection hT with hT;subst hT;trivial)
 case lookup t m k ok =>
  split at hT<;>try (cases hT;done)
  rename_i key e hu
  split at hT<;>try (cases hT;done)
  rename_i z m' k' hk hz hm hkk
  injection hT with hT;subst hT
  exact⟨t,m,k,key,e,rfl,hu,hk,hz,hm,hkk⟩
 case mapUpdate t m k x =>
  split at hT<;>try (cases hT;done)
  rename_i key e hu
  split at hT<;>try (cases hT;done)
  rename_i m' k' x' hk hm hkk hx
  injection hT with hT;subst hT
  exact⟨t,m,k,x,key,e,.inl rfl,hu,hk,hm,hkk,hx,rfl⟩
 case insert t m k x =>
  split at hT<;>try (cases hT;done)
  rename_i key e hu
  split at hT<;>try (cases hT;done)
  rename_i m' k' x' hk hm hkk hx
  injection hT with hT;subst hT
  exact⟨t,m,k,x,key,e,.inr rfl,hu,hk,hm,hkk,hx,rfl⟩
 case call c =>
  split at hT<;>try (cases hT;done)
  ·rename_i f hc
   split at hT<;>try (cases hT;done)
   rename_i f' xs hf hxs
   injection hT with hT;subst hT
   exact⟨c,f,rfl,hc,hf,hxs,rfl⟩
  ·rename_i b hc
   rcases trB_app hT with ⟨s,x,rfl⟩|⟨x,y,rfl⟩|⟨el,x,y,t,t2,e,e2,z,i,rfl,rfl,h1,h2,h3,h4,h5,h6,h7,h8,h9,h10⟩
   ·trivial
   ·trivial
   ·exact⟨c,t,t2,e,e2,z,i,rfl,hc,h1,h2,h3,h4,h5,h6,h7,h8,h9,h10,rfl⟩
theorem zero_run {e zs} (hz:zOf P e=some zs):∃ zv i,P.info? e=some i∧i.zero=some zv∧zv.cells.size=i.size∧(∀ C w,VL C w zs zv.cells.toList)∧(∀ n,AV.lowL n zs=true)∧∀ w,(zeroValue e).run P w=.ok zv w:=by
 obtain⟨i,zv,h1,h2,h3,-,h5⟩:=zOf_ok hz ⟨fun _=>none,fun _=>none,fun _=>0,fun _=>0,fun _=>none⟩ default
 refine⟨zv,i,h1,h2,h3,fun C w=>?_,h5,fun w=>by simp[zeroValue,typeInfo,h1,h2]⟩
 obtain⟨i',zv',k1,k2,-,k4,-⟩:=zOf_ok hz C w
 rw[h1] at k1
 injection k1 with k1
 subst k1
 rw[h2] at k2
 injection k2 with k2
 subst k2
 exact k4
theorem zero_v {e z} (hz:zvOf P e=some z) (C:Cx) (w:World):∃ zv,V C w z zv∧∀ w,(zeroValue e).run P w=.ok zv w:=by
 unfold zvOf at hz
 cases hi:P.info? e with
 | none=>rw[hi] at hz;cases hz
 | some i =>
  rw[hi] at hz
  dsimp only at hz
  cases hq:i.zero with
  | none=>rw[hq] at hz;cases hz
  | some zv =>
   rw[hq] at hz
   exact⟨zv,(trV_ok hz C w).1,fun w=>by simp[zeroValue,typeInfo,hi,hq]⟩
theorem lev_ok {o:Oper} {ao:AOp} {fz:Bool} {base C s w e a r} (R:Rel base C s w) (hT:trOp P o fz=some ao) (hF:FR C w e a) (h:lev ao e s=some r) :
  ∃ u,(execOp a.eval o).run P w=.ok (.value u) w∧V C w r u:=by
 by_cases hp:lev ao e s=pev ao e
 ·rw[hp] at h;exact pev_ok hT hF h
 have hfr:=from_ok hT
 obtain⟨dst,op,ty,pos,after,guard⟩:=o
 cases ao<;>try (exact absurd rfl hp)
 case load el x =>
  obtain⟨t,y,rfl,hel,hx⟩:=hfr
  replace h:((x.ev e).bind fun a=>aload s el a)=some r:=h
  cases q1:x.ev e with
  | none=>rw[q1] at h;cases h
  | some p =>
   rw[q1] at h
   obtain⟨q,g1,g2⟩:=aload_ok R hel (ev_ok hF hx q1) h
   exact⟨q,run_v g1,g2⟩
 case look z m k ok =>
  obtain⟨t,m',k',key,ee,rfl,hu,hk,hz,hm,hkk⟩:=hfr
  replace h:((m.ev e).bind fun a=>(k.ev e).bind fun b=>alook s z ok a b)=some r:=h
  cases q1:m.ev e with
  | none=>rw[q1] at h;cases h
  | some p =>
   rw[q1] at h
   replace h:((k.ev e).bind fun b=>alook s z ok p b)=some r:=h
   cases q2:k.ev e with
   | none=>rw[q2] at h;cases h
   | some q =>
    rw[q2] at h
    obtain⟨zv,z1,z2⟩:=zero_v hz C w
    obtain⟨u,g1,g2⟩:=look_ok R hu hk (ev_ok hF hm q1) (ev_ok hF hkk q2) z1 z2 h
    exact⟨u,run_v g1,g2⟩
end Go.Am
namespace Go.Am
open Go Go.RowKit
variable {P:Program}
theorem Stp.same {base bs C s w} (R:Rel base C s w) (hb:bs≤s.objs.length):Stp base bs C s w C s w:=⟨R,Mv.refl _ _ _,Below.refl _ _,Nat.le_refl _,fun _ _ h=>h,fun _ _ h=>h,Nat.le_refl _,fun _ _ h=>h⟩
def OpOK (P:Program) (base bs:Nat) (o:Oper) (a:Act) (C:Cx) (s:St) (w:World) (r:AV) (s2:St):Prop :=
 ∃ C2 w2 u,((execOp a.eval o).run P w=.ok (.value u) w2∨((execOp a.eval o).run P w=.ok .skip w2∧u=undef))∧Stp base bs C s w C2 s2 w2∧V C2 w2 r u
theorem Cl.push {n s o} (hn:n≤s.objs.length) (h:Cl n s):Cl n (newOb s o):=by
 intro r oo hr ho
 replace ho:(s.objs++[o])[r]?=some oo:=ho
 rw[List.getElem?_append_left (by omega)] at ho
 exact h r oo hr ho
theorem Stp.newBox {base bs C s w w' o} (R:Rel base C s w) (hbs:bs≤s.objs.length) (hb:Below base w w') (hs:w.heap.size<w'.heap.size) (hw:∀ k,k<w.heap.size→w'.heap[k]?=w.heap[k]?)
  (ho:OR (C.box s.objs.length w.heap.size) w' o w.heap.size) (hl:o.low (s.objs.length+1)=true):Stp base bs C s w (C.box s.objs.length w.heap.size) (newOb s o) w':=by
 obtain⟨h1,h2⟩:=R.newBox hs hw ho hl
 exact⟨h1,h2,hb,by show _≤(s.objs++[o]).length;simp,fun r hr h=>(by show (if r=s.objs.length then _ else _)=_;rw[if_neg (by omega)];exact h),fun _ _ h=>h,Nat.le_refl _,fun k hk h=>h.push (by omega)⟩
theorem Stp.newArray {base bs C s w w' cs cp az} (R:Rel base C s w) (hbs:bs≤s.objs.length) (hb:Below base w w') (hs:w.heap.size<w'.heap.size) (hw:∀ k,k<w.heap.size→w'.heap[k]?=w.heap[k]?)
  (ho:AR (C.array s.nxt w.heap.size cp az) w' cs w.heap.size (cp*az)):Stp base bs C s w (C.array s.nxt w.heap.size cp az) (newAr s cs) w':=by
 obtain⟨h1,h2⟩:=R.newArray hs hw ho
 exact⟨h1,h2,hb,Nat.le_refl _,fun _ _ h=>h,fun a ha h=>(by show (if a=s.nxt then _ else _)=_;rw[if_neg (by omega)];exact h),Nat.le_succ _,fun k hk h=>h⟩
theorem alloc_size (w:World) (o:Obj):(w.alloc o).heap.size=w.heap.size+1:=by show (w.heap.push o).size=_;simp
theorem range_new (w:World) (arr:Array Value) (e:TypeId):(w.alloc (.cells arr e)).rangeAt w.heap.size 0 arr.toList∧(∀ j,(w.alloc (.cells arr e)).frozen? ⟨w.heap.size,j,none⟩=false)∧∀ j,j<arr.size→((w.alloc (.cells arr e)).cell? ⟨w.heap.size,j,none⟩).isSome=true:=by
 have hh:=heap_alloc_new w (.cells arr e)
 have hc:∀ j,(w.alloc (.cells arr e)).cell? ⟨w.heap.size,j,none⟩=arr[j]?:=fun j=>cell_of_row _ _ j arr e (0,0) hh
 refine⟨fun j v hj=>?_,fun j=>?_,fun j hj=>?_⟩
 ·rw[Nat.zero_add,hc,←Array.getElem?_toList];exact hj
 ·unfold World.frozen?;rw[hh];simp
 ·rw[hc];simp[hj]
theorem newVar_run (t:TypeId) (v:Value) (w:World):(newVar t v).run P w=.ok ⟨w.heap.size,0,none⟩ (w.alloc (.cells v.cells t)):=by
 simp[newVar,newRow]
 try rfl
def repsV (z:List Value):Nat→List Value
 | 0=>[]
 | n+1=>z++repsV z n
theorem reps_ok {C w z zs} (h:VL C w z zs):∀ n,VL C w (reps z n) (repsV zs n)
 | 0=>by unfold reps repsV VL;rfl
 | n+1=>VL_app h (reps_ok h n)
theorem reps_low {z:List AV} (h:AV.lowL 0 z=true):∀ n,AV.lowL 0 (reps z n)=true
 | 0=>rfl
 | n+1=>by
  have key:∀ l m,AV.lowL 0 l=true→AV.lowL 0 m=true→AV.lowL 0 (l++m)=true:=by
   intro l m hl hm
   induction l with
   | nil=>exact hm
   | cons x l ih =>
    unfold AV.lowL at hl
    rw[Bool.and_eq_true] at hl
    show AV.lowL 0 (x::(l++m))=true
    unfold AV.lowL
    rw[Bool.and_eq_true]
    exact⟨hl.1,ih hl.2⟩
  exact key _ _ h (reps_low h n)
theorem repsV_len (z:List Value):∀ n,(repsV z n).length=n*z.length
 | 0=>by simp[repsV]
 | n+1=>by simp[repsV,repsV_len z n,Nat.add_mul];omega
theorem repsV_get {z:List Value}:∀ (n i:Nat),i<n*z.length→(repsV z n)[i]?=z[i % z.length]?
 | 0,i,h=>by simp at h
 | n+1,i,h=>by
  unfold repsV
  by_cases hi:i<z.length
  ·rw[List.getElem?_append_left hi,Nat.mod_eq_of_lt hi]
  ·rw[List.getElem?_append_right (by omega),repsV_get n (i - z.length) (by rw[Nat.add_mul] at h;omega),Nat.mod_eq_sub_mod (by omega:i≥z.length)]
theorem zeros_list {z:Array Value} {n:Nat}:(((Array.range (n*z.size)).map (fun i=>z[i % z.size]!)).toList)=repsV z.toList n:=by
 apply List.ext_getElem?
 intro i
 by_cases hi:i<n*z.size
 ·rw[repsV_get n i (by simpa using hi)]
  have hz:0<z.size:=by
   rcases Nat.eq_zero_or_pos z.size with h|h
   ·rw[h] at hi;simp at hi
   ·exact h
  have hm:=Nat.mod_lt i hz
  simp[hi,hm]
 ·rw[List.getElem?_eq_none (by simp;omega),List.getElem?_eq_none (by rw[repsV_len];simp;omega)]
theorem aslot_some {s el n cs r s2} (h:aslot s el n cs=some (r,s2)):AV.lowL 0 cs=true∧r=.os s.nxt el n∧s2=newAr s cs:=by
 unfold aslot at h
 split at h
 ·rename_i hl
  injection h with h
  injection h with h1 h2
  exact⟨hl,h1.symm,h2.symm⟩
 ·cases h
theorem V_box {C:Cx} {w:World} {r b:Nat}:V (C.box r b) w (.ref r 0) (.pointer (some ⟨b,0,none⟩)):=by
 unfold V
 exact⟨b,by show (if r=r then some b else _)=_;rw[if_pos rfl],rfl⟩
theorem V_array {C:Cx} {w:World} {a b cp:Nat} {el:El} {n:Nat} (hn:n≤cp):V (C.array a b cp el.size) w (.os a el n) (.slice (some ⟨b,0,none⟩) n cp):=by
 unfold V
 refine⟨b,?_,?_,?_,?_⟩
 ·show (if a=a then some b else _)=_;rw[if_pos rfl]
 ·show _=Value.slice _ n (if a=a then cp else _);rw[if_pos rfl]
 ·show (if a=a then el.size else _)=_;rw[if_pos rfl]
 ·show n≤(if a=a then cp else _);rw[if_pos rfl];exact hn
theorem aev_ok {o:Oper} {ao:AOp} {fz:Bool} {base bs C s w e a r s2} (R:Rel base C s w) (hbs:bs≤s.objs.length) (hT:trOp P o fz=some ao) (hF:FR C w e a) (h:aev ao e s=some (r,s2)) :
  OpOK P base bs o a C s w r s2:=by
 have hfr:=from_ok hT
 by_cases hp:aev ao e s=(lev ao e s).bind fun v=>some (v,s)
 ·rw[hp] at h
  cases hl:lev ao e s with
  | none=>rw[hl] at h;cases h
  | some v =>
   rw[hl] at h
   injection h with h
   injection h with h1 h2
   subst h1 h2
   obtain⟨u,g1,g2⟩:=lev_ok R hT hF hl
   exact⟨C,w,u,.inl g1,Stp.same R hbs,g2⟩
 obtain⟨dst,op,ty,pos,after,guard⟩:=o
 cases ao<;>try (exact absurd rfl hp)
 case alloc z =>
  obtain⟨t,rfl,hz⟩:=hfr
  injection h with h
  injection h with h1 h2
  subst h1 h2
  obtain⟨zv,i,z1,z2,z3,z4,z5,z6⟩:=zero_run hz
  obtain⟨g1,g2,g3⟩:=range_new w zv.cells t
  refine⟨_,_,_,.inl (run_v (u:=.pointer (some ⟨w.heap.size,0,none⟩)) (w':=w.alloc (.cells zv.cells t)) ?_),Stp.newBox R hbs ((Below.refl base w).alloc R.szb _) (by rw[alloc_size];omega) (fun k hk=>heap_alloc_old w _ k hk) ⟨_,g1,z4 _ _,g2⟩ (z5 _),V_box⟩
  simp[Instr.alloc,z6,newVar_run]
 case box x =>
  obtain⟨t,y,rfl,hx⟩:=hfr
  replace h:((x.ev e).bind fun v=>some (AV.ref s.objs.length 0,newOb s (.cells v.cells)))=some (r,s2):=h
  cases q1:x.ev e with
  | none=>rw[q1] at h;cases h
  | some v =>
   rw[q1] at h
   injection h with h
   injection h with h1 h2
   subst h1 h2
   have hV:=ev_ok hF hx q1
   obtain⟨g1,g2,g3⟩:=range_new w (a.eval y).cells t
   have hlow:AV.lowL (s.objs.length+1) v.cells=true:=by
    by_cases hc:v.cells=[]
    ·rw[hc];rfl
    ·exact lowL_le (by omega) (VL_low (fun r b h=>(R.mlt r b h).1) (V_cells hV hc))
   have M:Mv s.objs.length C w (C.box s.objs.length w.heap.size) (w.alloc (.cells (a.eval y).cells t)):=by
    have M0:Mv s.objs.length C w C (w.alloc (.cells (a.eval y).cells t)):=Mv.world0 R (fun k hk=>heap_alloc_old w _ k hk) _
    exact⟨fun r b hr hb=>by
     show (if r=s.objs.length then _ else _)=_
     rw[if_neg (by omega)];exact hb,M0.ma,M0.hc⟩
   refine⟨_,_,_,.inl (run_v (u:=.pointer (some ⟨w.heap.size,0,none⟩)) (w':=w.alloc (.cells (a.eval y).cells t)) ?_),Stp.newBox R hbs ((Below.refl base w).alloc R.szb _) (by rw[alloc_size];omega) (fun k hk=>heap_alloc_old w _ k hk) ?_ hlow,V_box⟩
   ·simp[Instr.box,newVar_run]
   ·by_cases hc:v.cells=[]
    ·rw[hc]
     exact⟨[],fun j v hj=>(by cases hj),(by unfold VL;rfl),g2⟩
    ·have hc1:=V_cells hV hc
     exact⟨_,g1,VL_mv M (VL_low (fun r b h=>(R.mlt r b h).1) hc1) hc1,g2⟩
 case box0 x =>
  obtain⟨t,y,rfl,hx⟩:=hfr
  replace h:((x.ev e).bind fun v=>abox s v)=some (r,s2):=h
  cases q1:x.ev e with
  | none=>rw[q1] at h;cases h
  | some v =>
   rw[q1] at h
   replace h:abox s v=some (r,s2):=h
   unfold abox at h
   split at h
   case isFalse=>cases h
   injection h with h
   injection h with h1 h2
   subst h1 h2
   have hV:=ev_ok hF hx q1
   obtain⟨g1,g2,g3⟩:=range_new w (a.eval y).cells t
   have hlow:AV.lowL (s.objs.length+1) v.cells=true:=by
    by_cases hc:v.cells=[]
    ·rw[hc];rfl
    ·exact lowL_le (by omega) (VL_low (fun r b h=>(R.mlt r b h).1) (V_cells hV hc))
   have M:Mv s.objs.length C w (C.box s.objs.length w.heap.size) (w.alloc (.cells (a.eval y).cells t)):=by
    have M0:Mv s.objs.length C w C (w.alloc (.cells (a.eval y).cells t)):=Mv.world0 R (fun k hk=>heap_alloc_old w _ k hk) _
    exact⟨fun r b hr hb=>by
     show (if r=s.objs.length then _ else _)=_
     rw[if_neg (by omega)];exact hb,M0.ma,M0.hc⟩
   refine⟨_,_,_,.inl (run_v (u:=.pointer (some ⟨w.heap.size,0,none⟩)) (w':=w.alloc (.cells (a.eval y).cells t)) ?_),Stp.newBox R hbs ((Below.refl base w).alloc R.szb _) (by rw[alloc_size];omega) (fun k hk=>heap_alloc_old w _ k hk) ?_ hlow,V_box⟩
   ·simp[Instr.box,newVar_run]
   ·by_cases hc:v.cells=[]
    ·rw[hc]
     exact⟨[],fun j v hj=>(by cases hj),(by unfold VL;rfl),g2⟩
    ·have hc1:=V_cells hV hc
     exact⟨_,g1,VL_mv M (VL_low (fun r b h=>(R.mlt r b h).1) hc1) hc1,g2⟩
 case mkm =>
  obtain⟨t,rfl⟩:=hfr
  injection h with h
  injection h with h1 h2
  subst h1 h2
  have hh:=heap_alloc_new w (.map #[] 0)
  refine⟨_,_,_,.inl (run_v (u:=.map (some w.heap.size)) (w':=w.alloc (.map #[] 0)) ?_),Stp.newBox R hbs ((Below.refl base w).alloc R.szb _) (by rw[alloc_size];omega) (fun k hk=>heap_alloc_old w _ k hk) ⟨#[],0,hh,by unfold ME;rfl⟩ rfl,?_⟩
  ·simp[Instr.makeMap]
   try rfl
  ·unfold V
   exact⟨w.heap.size,by show (if s.objs.length=s.objs.length then _ else _)=_;rw[if_pos rfl],rfl⟩
 case bsl el z len ps =>
  obtain⟨t,qs,ee,rfl,hu,hel,hz,hps,hl1,hl2,hl3⟩:=hfr
  replace h:((evp e ps).bind fun ps=>(fills (reps z len) ps).bind fun cs=>aslot s el len cs)=some (r,s2):=h
  cases q1:evp e ps with
  | none=>rw[q1] at h;cases h
  | some vs =>
   rw[q1] at h
   replace h:((fills (reps z len) vs).bind fun cs=>aslot s el len cs)=some (r,s2):=h
   cases q2:fills (reps z len) vs with
   | none=>rw[q2] at h;cases h
   | some cs =>
    rw[q2] at h
    obtain⟨h0,rfl,rfl⟩:=aslot_some h
    obtain⟨zv,i,z1,z2,z3,z4,z5,z6⟩:=zero_run hz
    obtain⟨d,inf,hd,hinf,hs,-⟩:=elOf_spec hel
    rw[z1] at hinf
    injection hinf with hinf
    subst hinf
    have hzs:zv.cells.size=el.size:=by rw[z3,hs]
    have hVz:=reps_ok (z4 C w) len
    rw[←zeros_list (z:=zv.cells) (n:=len),hzs] at hVz
    obtain⟨us,f1,f2⟩:=fills_ok hF hps q1 hVz q2
    have husz:us.size=len*el.size:=by
     have key:∀ (l:List (Nat × Value)) (c c':Array Value),Instr.fill (fun i=>some (i*el.size,el.size)) c l=some c'→c'.size=c.size:=by
      intro l
      induction l with
      | nil=>intro c c' hc;injection hc with hc;rw[hc]
      | cons p l ih =>
       intro c c' hc
       obtain⟨i,v⟩:=p
       unfold Instr.fill at hc
       dsimp only at hc
       split at hc
       ·cases hc
       ·rename_i hn
        rw[ih _ _ hc]
        have hle:i*el.size+v.cells.size≤c.size:=by simp at hn;omega
        have:=congrArg List.length (fill_one (cs:=c) (v:=v) (off:=i*el.size) hle)
        rw[Array.length_toList] at this
        rw[this]
        simp
        omega
     rw[key _ _ _ f1]
     simp
    obtain⟨g1,g2,g3⟩:=range_new w us ee
    have M:Mv s.objs.length C w (C.array s.nxt w.heap.size len el.size) (w.alloc (.cells us ee)):=by
     have M0:Mv s.objs.length C w C (w.alloc (.cells us ee)):=Mv.world0 R (fun k hk=>heap_alloc_old w _ k hk) _
     refine⟨M0.m,fun aa b hb=>?_,M0.hc⟩
     have hne:aa≠s.nxt:=fun e=>by have:=(R.alt aa b hb).1;omega
     refine⟨?_,?_,?_⟩
     ·show (if aa=s.nxt then _ else _)=_;rw[if_neg hne];exact hb
     ·show (if aa=s.nxt then _ else _)=_;rw[if_neg hne]
     ·show (if aa=s.nxt then _ else _)=_;rw[if_neg hne]
    refine⟨_,_,_,.inl (run_v (u:=.slice (some ⟨w.heap.size,0,none⟩) len len) (w':=w.alloc (.cells us ee)) ?_),Stp.newArray R hbs ((Below.refl base w).alloc R.szb _) (by rw[alloc_size];omega) (fun k hk=>heap_alloc_old w _ k hk) ⟨_,g1,VL_mv M (VL_low (fun r b h=>(R.mlt r b h).1) f2) f2,g2,fun j hj=>g3 j (by omega),h0⟩,V_array (Nat.le_refl _)⟩
    have hsz:(sizeOf ee).run P w=.ok el.size w:=by simp[sizeOf,typeInfo,z1,hs]
    simp only[Instr.buildSlice,Sem.run_bind,run_underlying hu,Result.andThen_ok,hsz,Sem.run_ite,map_parts]
    rw[if_neg (by omega)]
    simp only[Sem.run_pure,Result.andThen_ok,Sem.run_bind,z6]
    by_cases hl0:len*el.size=0
    ·rw[if_pos hl0]
     try simp only[Result.andThen_ok]
     have e0:((Array.range (len*el.size)).map (fun i=>(#[]:Array Value)[i % (#[]:Array Value).size]!))=(Array.range (len*el.size)).map (fun i=>zv.cells[i % el.size]!):=by
      rw[hl0];simp
     rw[e0,f1]
     simp[newRow]
     try rfl
    ·rw[if_neg hl0]
     try simp only[Result.andThen_ok]
     rw[hzs,f1]
     simp[newRow]
     try rfl
 case msl el z l c =>
  obtain⟨t,l',c',ee,i,rfl,hu,hel,hz,hi,hl,hc,hby,hpos⟩:=hfr
  replace h:((l.ev e).bind fun a=>(c.ev e).bind fun b=>amsl s el z a b)=some (r,s2):=h
  cases q1:l.ev e with
  | none=>rw[q1] at h;cases h
  | some lv =>
   rw[q1] at h
   replace h:((c.ev e).bind fun b=>amsl s el z lv b)=some (r,s2):=h
   cases q2:c.ev e with
   | none=>rw[q2] at h;cases h
   | some cv =>
    rw[q2] at h
    replace h:amsl s el z lv cv=some (r,s2):=h
    have hV1:=ev_ok hF hl q1
    have hV2:=ev_ok hF hc q2
    cases lv<;>try (cases h;done)
    cases cv<;>try (cases h;done)
    rename_i k1 n k2 m
    unfold amsl at h
    dsimp only at h
    split at h
    ·rename_i hcond
     obtain⟨h0,rfl,rfl⟩:=aslot_some h
     obtain⟨zv,i',z1,z2,z3,z4,z5,z6⟩:=zero_run hz
     rw[hi] at z1
     injection z1 with z1
     subst z1
     obtain⟨d,inf,hd,hinf,hs,-⟩:=elOf_spec hel
     rw[hi] at hinf
     injection hinf with hinf
     subst hinf
     have hzs:zv.cells.size=el.size:=by rw[z3,hs]
     have hVz:=fun C w=>reps_ok (z4 C w) m.toNat
     rw[←zeros_list (z:=zv.cells) (n:=m.toNat),hzs] at hVz
     obtain⟨g1,g2,g3⟩:=range_new w ((Array.range (m.toNat*el.size)).map (fun i=>zv.cells[i % el.size]!)) ee
     refine⟨_,_,_,.inl (run_v (u:=.slice (some ⟨w.heap.size,0,none⟩) n.toNat m.toNat) (w':=w.alloc (.cells ((Array.range (m.toNat*el.size)).map (fun i=>zv.cells[i % el.size]!)) ee)) ?_),Stp.newArray R hbs ((Below.refl base w).alloc R.szb _) (by rw[alloc_size];omega) (fun k hk=>heap_alloc_old w _ k hk) ⟨_,g1,hVz _ _,g2,fun j hj=>g3 j (by simpa using hj),h0⟩,V_array (by omega)⟩
     unfold V at hV1 hV2
     have hmost:m≤1000000:=by unfold most at hcond;exact hcond.2.2
     have hbytes:(i.bytes:Int)*m≤281474976710656:=by
      have h1:(i.bytes:Int)*m≤1000*m:=Int.mul_le_mul_of_nonneg_right (by omega) (by omega)
      omega
     have hrun:=run_make (P:=P) w t ee i zv hu hi z2 k1 k2 n m hcond.1 hcond.2.1 hbytes (by omega)
     rw[hV1,hV2,hrun]
     have hmc:madeCells zv.cells (m.toNat*i.size)=(Array.range (m.toNat*el.size)).map (fun q=>zv.cells[q % el.size]!):=by
      unfold madeCells
      rw[hs,hzs]
     rw[hmc]
    ·cases h
end Go.Am
namespace Go.Am
open Go Go.RowKit
variable {P:Program}
theorem Gho.stp {base bs w C s C1 s1 C2 s2 w2} (g:Gho base w C s C1 s1) (h:Stp base bs C1 s1 w C2 s2 w2):Stp base bs C s w C2 s2 w2 :=
 ⟨h.rel,g.mv.trans (by rw[←g.objs];exact h.mv),h.be,(by rw[←g.objs];exact h.ol),fun r hr hm=>h.um r (by rw[g.objs];exact hr) (by rw[g.m];exact hm),fun a ha hm=>h.ua a (by rw[g.nxt];exact ha) (by rw[g.ma];exact hm),(by rw[←g.nxt];exact h.nx),fun k hk hc=>h.cl k hk (fun r o hr ho=>hc r o hr (by rw[←g.objs];exact ho))⟩
theorem heap_setCells (b:Nat):∀ (vs:List Value) (o:Nat) (w:World),(w.setCells b o vs).heap.size=w.heap.size∧∀ k,k≠b→(w.setCells b o vs).heap[k]?=w.heap[k]?
 | [],o,w=>⟨rfl,fun _ _=>rfl⟩
 | v::vs,o,w=>by
  rw[World.setCells]
  obtain⟨h1,h2⟩:=heap_setCells b vs (o+1) (w.setCell ⟨b,o,none⟩ v)
  refine⟨h1.trans (by simp[World.setCell]),fun k hk=>(h2 k hk).trans (Below.heap_setCell w _ _ k hk)⟩
theorem below_setCells {base:Nat} (b:Nat) (hb:base≤b):∀ (vs:List Value) (o:Nat) (w:World),Below base w (w.setCells b o vs)
 | [],o,w=>Below.refl _ _
 | v::vs,o,w=>by
  rw[World.setCells]
  exact ((Below.refl base w).setCell hb v).trans (below_setCells b hb vs (o+1) _)
theorem range_splice {w:World} {b o:Nat} {us vs:List Value} (h:w.rangeAt b 0 us) (hl:o+vs.length≤us.length):(w.setCells b o vs).rangeAt b 0 (us.take o++vs++us.drop (o+vs.length)):=by
 have hc:∀ j,j<us.length→w.cell? ⟨b,j,none⟩=us[j]?:=fun j hj=>by
  have:=h j _ (List.getElem?_eq_getElem hj)
  rw[Nat.zero_add] at this
  rw[this,List.getElem?_eq_getElem hj]
 intro j v hj
 rw[Nat.zero_add]
 have hsome:∀ i,i<vs.length→(w.cell? ⟨b,o+i,none⟩).isSome=true:=fun i hi=>by
  rw[hc _ (by omega),List.getElem?_eq_getElem (by omega)];rfl
 by_cases h1:j<o
 ·rw[List.append_assoc,List.getElem?_append_left (by rw[List.length_take];omega),List.getElem?_take,if_pos h1] at hj
  rw[World.cell?_setCells_out b vs o w _ (fun _ _=>.inl h1),hc j (by omega)]
  exact hj
 ·by_cases h2:j<o+vs.length
  ·rw[List.getElem?_append_left (by rw[List.length_append,List.length_take];omega),List.getElem?_append_right (by rw[List.length_take];omega)] at hj
   rw[List.length_take,Nat.min_eq_left (by omega)] at hj
   have hin:=World.cell?_setCells_in b vs o w hsome (j - o) (by omega)
   rw[show o+(j - o)=j by omega] at hin
   rw[hin,←hj,List.getElem?_eq_getElem (by omega)]
  ·rw[List.getElem?_append_right (by rw[List.length_append,List.length_take];omega),List.length_append,List.length_take,Nat.min_eq_left (by omega),List.getElem?_drop] at hj
   rw[World.cell?_setCells_out b vs o w _ (fun _ _=>.inr (by show _≤j;omega))]
   have hlt:=lt_of_some hj
   rw[hc j (by omega),←hj]
   congr 1
   omega
theorem store_run {w:World} {t b o:Nat} {v:Value} {i:TypeInfo} (hi:P.info? t=some i) (hs:v.cells.size=i.size) (h1:∀ u∈v.cells.toList,u.oneCell'=true)
  (hc:∀ j,j<v.cells.size→(w.cell? ⟨b,o+j,none⟩).isSome=true) (hf:∀ j,w.frozen? ⟨b,j,none⟩=false) :
  (Instr.storeAt t (.pointer (some ⟨b,o,none⟩)) v).run P w=.ok () (w.setCells b o v.cells.toList):=by
 have hst:=run_storeCells_cells (P:=P) b o v.cells.toList 0 w (by simpa using hc) (fun j _=>by simpa using hf (o+0+j)) h1
 simp only[Nat.add_zero] at hst
 simp[Instr.storeAt,Instr.sureAddr,storeVar,sizeOf,typeInfo,hi,hs,hst]
theorem lowL_app {n:Nat}:∀ {xs ys},AV.lowL n xs=true→AV.lowL n ys=true→AV.lowL n (xs++ys)=true
 | [],ys,_,h=>h
 | x::xs,ys,h,k=>by
  unfold AV.lowL at h
  rw[Bool.and_eq_true] at h
  show AV.lowL n (x::(xs++ys))=true
  unfold AV.lowL
  rw[Bool.and_eq_true]
  exact⟨h.1,lowL_app h.2 k⟩
theorem lowL_take {n:Nat}:∀ {xs} (k:Nat),AV.lowL n xs=true→AV.lowL n (xs.take k)=true
 | [],k,h=>by simp;rfl
 | x::xs,0,h=>by simp;rfl
 | x::xs,k+1,h=>by
  unfold AV.lowL at h
  rw[Bool.and_eq_true] at h
  show AV.lowL n (x::xs.take k)=true
  unfold AV.lowL
  rw[Bool.and_eq_true]
  exact⟨h.1,lowL_take k h.2⟩
theorem lowL_drop {n:Nat}:∀ {xs} (k:Nat),AV.lowL n xs=true→AV.lowL n (xs.drop k)=true
 | [],k,h=>by simp;rfl
 | x::xs,0,h=>h
 | x::xs,k+1,h=>by
  unfold AV.lowL at h
  rw[Bool.and_eq_true] at h
  exact lowL_drop k h.2
theorem low_cells {n:Nat} {x:AV} (h:x.low n=true):AV.lowL n x.cells=true:=by
 cases x<;>first
  | (unfold AV.cells;exact rfl)
  | (unfold AV.cells;unfold AV.lowL;rw[h];rfl)
  | (unfold AV.low at h;exact h)
theorem astore_ok {base bs C s w n v uv p up r s2 t i} (R:Rel base C s w) (hbs:bs≤s.objs.length) (hi:P.info? t=some i) (hn:i.size=n) (hv:V C w v uv) (hp:V C w p up) (h:astore bs n s v p=some (r,s2)) :
  ∃ C2 w2,(Instr.storeAt t up uv).run P w=.ok () w2∧r=.un∧Stp base bs C s w C2 s2 w2:=by
 cases p<;>try (cases h;done)
 case ref rr o =>
  unfold V at hp
  obtain⟨b,h1,rfl⟩:=hp
  unfold astore at h
  dsimp only at h
  cases hob:s.objs[rr]? with
  | none=>rw[hob] at h;cases h
  | some ob =>
   rw[hob] at h
   cases ob with
   | map es=>cases h
   | cells cs =>
    dsimp only at h
    split at h
    ·rename_i hc
     obtain⟨c1,c2,c3,c4⟩:=hc
     injection h with h
     injection h with e1 e2
     subst e1 e2
     have hVc:=V_cells hv (by intro h0;rw[h0] at c1;simp at c1;omega)
     have hlen:=VL_len hVc
     obtain⟨us,g1,g2,g3⟩:=R.obj rr _ b hob h1
     have hul:=VL_len g2
     have hcs:∀ j,j<uv.cells.size→(w.cell? ⟨b,o+j,none⟩).isSome=true:=fun j hj=>by
      rw[Array.length_toList] at hlen
      have hlt:o+j<us.length:=by omega
      have:=g1 (o+j) _ (List.getElem?_eq_getElem hlt)
      rw[Nat.zero_add] at this
      rw[this];rfl
     have hrun:=store_run (P:=P) (w:=w) (b:=b) (o:=o) (v:=uv) hi (by rw[←Array.length_toList,hlen,c1,hn]) (VL_one hVc) hcs g3
     obtain⟨k1,k2⟩:=heap_setCells b uv.cells.toList o w
     have hblt:=(R.mlt rr b h1).2.2
     have M:Mv s.objs.length C w C (w.setCells b o uv.cells.toList):=Mv.world R (q:=some b) (fun b' h=>by injection h with h;subst h;exact R.mh rr b h1) (fun k hk hq=>k2 k (fun e=>hq (by rw[e]))) _
     have hlow:AV.lowL s.objs.length (splice cs o v.cells)=true:=by
      have hcl:=R.clo rr _ hob
      replace hcl:AV.lowL s.objs.length cs=true:=hcl
      unfold splice
      exact lowL_app (lowL_app (lowL_take _ hcl) (low_cells (R.low hv))) (lowL_drop _ hcl)
     have hVL:VL C w (splice cs o v.cells) (us.take o++uv.cells.toList++us.drop (o+uv.cells.toList.length)):=VL_splice g2 hVc
     obtain⟨q1,q2⟩:=R.setBox (o:=.cells (splice cs o v.cells)) h1 (by rw[k1];exact Nat.le_refl _) (fun k hk hkb=>k2 k hkb)
      ⟨_,range_splice g1 (by omega),VL_mv M hlow hVL,fun j=>by rw[World.frozen?_setCells];exact g3 j⟩ hlow
     refine⟨C,_,hrun,rfl,q1,q2,below_setCells b hblt _ _ _,by show _≤(s.objs.set rr _).length;rw[List.length_set];exact Nat.le_refl _,fun _ _ h=>h,fun _ _ h=>h,Nat.le_refl _,fun k hk hcl r' oo hr ho=>?_⟩
     replace ho:(s.objs.set rr (.cells (splice cs o v.cells)))[r']?=some oo:=ho
     by_cases hrr:rr=r'
     ·subst hrr
      rw[List.getElem?_set_self (lt_of_some hob)] at ho
      injection ho with ho
      subst ho
      have hcc:=hcl rr _ hr hob
      replace hcc:AV.lowL k cs=true:=hcc
      show AV.lowL k (splice cs o v.cells)=true
      unfold splice
      exact lowL_app (lowL_app (lowL_take _ hcc) (lowL_le (Nat.zero_le k) (low_cells (c4 (by omega))))) (lowL_drop _ hcc)
     ·rw[List.getElem?_set_ne hrr] at ho
      exact hcl r' oo hr ho
    ·cases h
 case aref aa o =>
  unfold V at hp
  obtain⟨b,h1,rfl⟩:=hp
  unfold astore at h
  dsimp only at h
  cases hob:s.arr aa with
  | none=>rw[hob] at h;cases h
  | some cs =>
   rw[hob] at h
   dsimp only at h
   split at h
   ·rename_i hc
    obtain⟨c1,c2,c3,c4⟩:=hc
    injection h with h
    injection h with e1 e2
    subst e1 e2
    have hlive:s.arr aa≠none:=by rw[hob];intro h;cases h
    have hVc:=V_cells hv (by intro h0;rw[h0] at c1;simp at c1;omega)
    have hlen:=VL_len hVc
    obtain⟨us,g1,g2,g3,g4,glow⟩:=R.ar aa _ b hob h1
    have hul:=VL_len g2
    have hcs:∀ j,j<uv.cells.size→(w.cell? ⟨b,o+j,none⟩).isSome=true:=fun j hj=>by
     rw[Array.length_toList] at hlen
     have hlt:o+j<us.length:=by omega
     have:=g1 (o+j) _ (List.getElem?_eq_getElem hlt)
     rw[Nat.zero_add] at this
     rw[this];rfl
    have hrun:=store_run (P:=P) (w:=w) (b:=b) (o:=o) (v:=uv) hi (by rw[←Array.length_toList,hlen,c1,hn]) (VL_one hVc) hcs g3
    obtain⟨k1,k2⟩:=heap_setCells b uv.cells.toList o w
    have hblt:=(R.alt aa b h1).2.2
    have M:Mv s.objs.length C w C (w.setCells b o uv.cells.toList):=Mv.world R (q:=some b) (fun b' h=>by injection h with h;subst h;exact R.ah aa b h1 hlive) (fun k hk hq=>k2 k (fun e=>hq (by rw[e]))) _
    have hVL:VL C w (splice cs o v.cells) (us.take o++uv.cells.toList++us.drop (o+uv.cells.toList.length)):=VL_splice g2 hVc
    obtain⟨q1,q2⟩:=R.setArray (cs:=splice cs o v.cells) h1 hlive (by rw[k1];exact Nat.le_refl _) (fun k hk hkb=>k2 k hkb)
     ⟨_,range_splice g1 (by omega),VL_mv M (VL_low (fun r b h=>(R.mlt r b h).1) hVL) hVL,fun j=>by rw[World.frozen?_setCells];exact g3 j,fun j hj=>World.isSome_setCells b _ _ _ _ (g4 j hj),lowL_app (lowL_app (lowL_take _ glow) (low_cells c4)) (lowL_drop _ glow)⟩
    exact⟨C,_,hrun,rfl,q1,q2,below_setCells b hblt _ _ _,Nat.le_refl _,fun _ _ h=>h,fun _ _ h=>h,Nat.le_refl _,fun k hk hcl=>hcl⟩
   ·cases h
theorem setE_ok {C w} {k:List UInt8} {v:AV} {u:Value} (hv:V C w v u) (hf:AV.fin v=true):∀ {es l},ME C w es l→match findE k es with
  | some _=>∀ j m,(∃ x,Instr.findNow .string (.string ⟨⟨k⟩⟩) l 0=some (some (j,x)))→l[j]?=some m→m.key=.string ⟨⟨k⟩⟩→ME C w (setE k v es) (l.modify j (fun e=>{ e with key:=.string ⟨⟨k⟩⟩,val:=u }))
  | none=>∀ born,ME C w (setE k v es) (l++[{ key:=.string ⟨⟨k⟩⟩,val:=u,born:=born }]):=by
 intro es
 induction es with
 | nil =>
  intro l h
  unfold ME at h
  subst h
  intro born
  show ME C w [(k,v)] [_]
  unfold ME
  exact⟨_,[],rfl,rfl,hv,hf,by unfold ME;rfl⟩
 | cons p es ih =>
  obtain⟨j0,v0⟩:=p
  intro l h
  unfold ME at h
  obtain⟨m0,l',rfl,h1,h2,h3,h4⟩:=h
  have ih:=ih h4
  unfold findE
  by_cases hk:k=j0
  ·subst hk
   rw[if_pos rfl]
   dsimp only
   intro j m hx hm hkey
   have hj:j=0:=by
    obtain⟨x,hx⟩:=hx
    unfold Instr.findNow at hx
    rw[h1] at hx
    simp[Instr.sameNow,str_beq] at hx
    exact hx.1.symm
   subst hj
   show ME C w (setE k v ((k,v0)::es)) ({ m0 with key:=.string ⟨⟨k⟩⟩,val:=u }::l')
   unfold setE
   rw[if_pos rfl]
   unfold ME
   exact⟨_,l',rfl,rfl,hv,hf,h4⟩
  ·rw[if_neg hk]
   have hs:Instr.sameNow .string (.string ⟨⟨k⟩⟩) m0.key=some false:=by
    rw[h1]
    simp[Instr.sameNow,str_beq,hk]
   have hset:setE k v ((j0,v0)::es)=(j0,v0)::setE k v es:=by
    show (if k=j0 then _ else _)=_
    rw[if_neg hk]
   cases hfe:findE k es with
   | none =>
    rw[hfe] at ih
    dsimp only at ih ⊢
    intro born
    rw[hset]
    show ME C w ((j0,v0)::setE k v es) (m0::(l'++_))
    unfold ME
    exact⟨m0,_,rfl,h1,h2,h3,ih born⟩
   | some q =>
    rw[hfe] at ih
    dsimp only at ih ⊢
    intro j m hx hm hkey
    obtain⟨x,hx⟩:=hx
    unfold Instr.findNow at hx
    rw[hs] at hx
    dsimp only at hx
    have hsh:=findNow_ok (k:=k) 0 h4
    rw[hfe] at hsh
    dsimp only at hsh
    obtain⟨j1,u1,m1,g1,g2,g3,g4,g5⟩:=hsh
    have hsh1:=findNow_ok (k:=k) 1 h4
    rw[hfe] at hsh1
    dsimp only at hsh1
    obtain⟨j2,u2,m2,e1,e2,e3,e4,e5⟩:=hsh1
    rw[Nat.zero_add,e1] at hx
    injection hx with hx
    injection hx with hx
    injection hx with hx1 hx2
    have hj:j=j2+1:=by omega
    subst hj
    have e6:∃ x,Instr.findNow .string (.string ⟨⟨k⟩⟩) l' 0=some (some (j2,x)):=by
     have shift:∀ (l:List MapEntry) (i:Nat) j x,Instr.findNow .string (.string ⟨⟨k⟩⟩) l (i+1)=some (some (j+1,x))→Instr.findNow .string (.string ⟨⟨k⟩⟩) l i=some (some (j,x)):=by
      intro l
      induction l with
      | nil=>intro i j x h;simp[Instr.findNow] at h
      | cons m l ihl =>
       intro i j x h
       unfold Instr.findNow at h ⊢
       cases hsn:Instr.sameNow .string (.string ⟨⟨k⟩⟩) m.key with
       | none=>rw[hsn] at h;cases h
       | some t =>
        rw[hsn] at h
        cases t with
        | true =>
         dsimp only at h ⊢
         injection h with h
         injection h with h
         injection h with h1 h2
         have:i=j:=by omega
         rw[this,h2]
        | false=>exact ihl _ _ _ h
     refine⟨u2,shift l' 0 j2 u2 ?_⟩
     rw[e1]
     congr 3
     try omega
    rw[hset]
    show ME C w ((j0,v0)::setE k v es) (m0::l'.modify j2 _)
    unfold ME
    exact⟨m0,_,rfl,h1,h2,h3,ih j2 m e6 hm hkey⟩
theorem aupd_ok {base bs C s w t key e m um k uk v uv r s2} (R:Rel base C s w) (hbs:bs≤s.objs.length) (ht:P.underlying t=some (.map key e)) (hk:P.underlying key=some .string) (hm:V C w m um) (hkv:V C w k uk) (hv:V C w v uv)
  (h:aupd s v m k=some (r,s2)):∃ C2 w2,(Instr.mapUpdate t um uk uv).run P w=.ok () w2∧r=.un∧Stp base bs C s w C2 s2 w2:=by
 have hck:∀ b l,(Instr.checkKey b 10000 key (.string l)).run P w=.ok () w:=by
  intro b l
  have h1:∀ n,(Instr.checkKey b (n+1) key (.string l)).run P w=.ok () w:=by
   intro n
   simp[Instr.checkKey,run_underlying hk]
  exact h1 9999
 cases m<;>try (cases h;done)
 cases k<;>try (cases h;done)
 rename_i rr ks
 unfold V at hm hkv
 obtain⟨b,h1,rfl⟩:=hm
 subst hkv
 unfold aupd at h
 dsimp only at h
 cases hob:s.objs[rr]? with
 | none=>rw[hob] at h;cases h
 | some ob =>
  rw[hob] at h
  cases ob with
  | cells cs=>cases h
  | map es =>
   dsimp only at h
   split at h
   ·rename_i hfin
    injection h with h
    injection h with e1 e2
    subst e1 e2
    obtain⟨l,clock,g1,g2⟩:=R.obj rr _ b hob h1
    have hblt:=R.mlt rr b h1
    have hget:(getObj b).run P w=.ok (.map l clock) w:=by simp[getObj,Sem.run,g1]
    have hput:∀ o',(setObj b o').run P w=.ok () { w with heap:=w.heap.setIfInBounds b o' }:=fun o'=>by simp[setObj,Sem.run,g1]
    have hgen:∀ (l2:Array MapEntry) (c2:Nat),ME C w (setE ks v es) l2.toList→Stp base bs C s w C { s with objs:=s.objs.set rr (.map (setE ks v es)) } { w with heap:=w.heap.setIfInBounds b (.map l2 c2) }:=by
     intro l2 c2 hME
     have k2:∀ k,k≠b→(w.heap.setIfInBounds b (.map l2 c2))[k]?=w.heap[k]?:=fun k hk=>by rw[Array.getElem?_setIfInBounds_ne (Ne.symm hk)]
     have M:Mv s.objs.length C w C { w with heap:=w.heap.setIfInBounds b (.map l2 c2) }:=Mv.world R (q:=some b) (fun b' h=>by injection h with h;subst h;exact R.mh rr b h1) (fun k hk hq=>k2 k (fun e=>hq (by rw[e]))) _
     obtain⟨q1,q2⟩:=R.setBox (o:=.map (setE ks v es)) (w':={ w with heap:=w.heap.setIfInBounds b (.map l2 c2) }) h1 (by simp) (fun k hk hkb=>k2 k hkb)
      ⟨l2,c2,by show (w.heap.setIfInBounds b _)[b]?=_;rw[Array.getElem?_setIfInBounds_self_of_lt hblt.2.1],ME_mv M hME⟩ rfl
     refine⟨q1,q2,⟨rfl,rfl,rfl,by simp,fun k hk=>k2 k (by omega)⟩,by show _≤(s.objs.set rr _).length;rw[List.length_set];exact Nat.le_refl _,fun _ _ h=>h,fun _ _ h=>h,Nat.le_refl _,fun k hk hcl r' oo hr ho=>?_⟩
     replace ho:(s.objs.set rr (.map (setE ks v es)))[r']?=some oo:=ho
     by_cases hrr:rr=r'
     ·subst hrr
      rw[List.getElem?_set_self (lt_of_some hob)] at ho
      injection ho with ho
      subst ho
      rfl
     ·rw[List.getElem?_set_ne hrr] at ho
      exact hcl r' oo hr ho
    have hset:=setE_ok (k:=ks) hv hfin g2
    have hfn:=findNow_ok (k:=ks) 0 g2
    cases hf:findE ks es with
    | none =>
     rw[hf] at hset hfn
     dsimp only at hset hfn
     refine⟨C,_,?_,rfl,hgen (l.push { key:=.string ⟨⟨ks⟩⟩,val:=uv,born:=clock }) (clock+1) (by simpa using hset clock)⟩
     simp[Instr.mapUpdate,run_underlying ht,hget,hck,Instr.findKey,run_underlying hk,hfn,hput]
    | some v0 =>
     rw[hf] at hset hfn
     dsimp only at hset hfn
     obtain⟨j,u,m',n1,n2,n3,n4,n5⟩:=hfn
     rw[Nat.zero_add] at n1
     refine⟨C,_,?_,rfl,hgen (l.modify j (fun e=>{ e with key:=.string ⟨⟨ks⟩⟩,val:=uv })) clock (by rw[Array.toList_modify];exact hset j m' ⟨u,n1⟩ n4 n5)⟩
     have n4':l[j]?=some m':=by rw[←Array.getElem?_toList];exact n4
     have hkts:(Instr.keyThatStays m'.key (.string ⟨⟨ks⟩⟩)).run P w=.ok (.string ⟨⟨ks⟩⟩) w:=by
      rw[n5]
      simp[Instr.keyThatStays,Instr.sameBits,str_beq]
     simp[Instr.mapUpdate,run_underlying ht,hget,hck,Instr.findKey,run_underlying hk,n1,n4',hkts,hput]
   ·cases h
end Go.Am
namespace Go.Am
open Go Go.RowKit
variable {P:Program}
theorem VS_flat {C w sz}:∀ {xs us},0<sz→VS C w sz xs us→AV.finL xs=true→VL C w (xs.flatMap AV.cells) us
 | [],us,hs,h,_=>by unfold VS at h;subst h;show VL C w [] [];unfold VL;rfl
 | x::xs,us,hs,h,hf=>by
  unfold VS at h
  unfold AV.finL at hf
  rw[Bool.and_eq_true] at hf
  obtain⟨u,us',rfl,h1,h2,h3⟩:=h
  rw[List.flatMap_cons]
  refine VL_app (V_cells h2 ?_) (VS_flat hs h3 hf.2)
  intro hc
  cases x<;>first
   | (cases hc;done)
   | (cases hf.1;done)
   | skip
  rename_i cs
  replace hc:cs=[]:=hc
  subst hc
  unfold V at h2
  obtain⟨vs,rfl,h4⟩:=h2
  unfold VL at h4
  have:vs = #[]:=Array.toList_eq_nil_iff.1 h4
  subst this
  replace h1:0=sz:=h1
  omega
theorem flat_ok {base C s w el y uy k cy t2 e2} (R:Rel base C s w) (hpos:0<el.size) (ht:P.underlying t2=some (.slice e2)) (hv:V C w y uy) (h:flat el y s=some (k,cy)) :
  ∃ us,VL C w cy us∧us.length=k*el.size∧Src P el.size t2 uy k us w:=by
 cases y<;>try (cases h;done)
 case nsl =>
  injection h with h
  injection h with e1 e2
  subst e1 e2
  unfold V at hv
  subst hv
  exact⟨[],by unfold VL;rfl,by simp,Src.ofNil w ht 0⟩
 case sl el' xs =>
  replace h:(if el'.size=el.size then some (xs.length,xs.flatMap AV.cells) else none)=some (k,cy):=h
  split at h
  ·rename_i hs
   injection h with h
   injection h with e1 e2
   subst e1 e2
   unfold V at hv
   obtain⟨b,cap,hh,us,rfl,h2,h0,h3,h4,h5,h6,h7⟩:=hv
   have hVL:=VS_flat (by omega) h7 h3
   rw[hs] at h4
   refine⟨us,hVL,h4,Src.ofSlice w ht ⟨b,0,none⟩ _ cap us h4 (fun j u hj=>?_) (VL_one hVL)⟩
   rw[Addr.add_mid]
   exact h6 j u hj
  ·cases h
 case os a el' n =>
  unfold flat at h
  dsimp only at h
  cases hob:s.arr a with
  | none=>rw[hob] at h;cases h
  | some cs =>
   rw[hob] at h
   dsimp only at h
   split at h
   ·rename_i hc
    injection h with h
    injection h with e1 e2
    subst e1 e2
    unfold V at hv
    obtain⟨b,h1,rfl,h3,h4⟩:=hv
    obtain⟨us,g1,g2,g3,g4,glow⟩:=R.ar a _ b hob h1
    have hVL:=VL_take (n*el.size) g2
    have hlen:(us.take (n*el.size)).length=n*el.size:=by
     rw[List.length_take,VL_len g2];omega
    refine⟨_,hVL,hlen,Src.ofSlice w ht ⟨b,0,none⟩ _ _ _ hlen (fun j u hj=>?_) (VL_one hVL)⟩
    rw[Addr.add_mid]
    exact rangeAt_take g1 _ j u hj
   ·cases h
theorem drew_heap (w:World):w.drew.heap=w.heap:=(rfl)
theorem range_heap {w w':World} (h:w'.heap=w.heap) {b k us} (hr:w.rangeAt b k us):w'.rangeAt b k us:=fun j v hj=>by
 rw[cell_same (w:=w) (w':=w') (by rw[h])]
 exact hr j v hj
theorem agrow_ok {base bs C s w el k cy x ux uy us r s2 t t2 ty e i zs} (R:Rel base C s w) (hbs:bs≤s.objs.length) (hpos:0<el.size) (ht:P.underlying t=some (.slice e)) (hi:P.info? e=some i) (hs:i.size=el.size) (hz:zOf P e=some zs)
  (hb:i.bytes≤1000) (hx:V C w x ux) (hcy:VL C w cy us) (hlen:us.length=k*el.size) (hsrc:Src P el.size t2 uy k us w) (h:agrow s el k cy x=some (r,s2)) :
  ∃ C2 w2 u,(Builtin.append_ #[t,t2] ty #[ux,uy]).run P w=.ok u w2∧Stp base bs C s w C2 s2 w2∧V C2 w2 r u:=by
 obtain⟨zv,i',z1,z2,z3,z4,z5,z6⟩:=zero_run hz
 rw[hi] at z1
 injection z1 with z1
 subst z1
 have hsrc':Src P i.size t2 uy k us w:=by rw[hs];exact hsrc
 have grow:∀ (base':Option Addr) (sLen sCap:Nat) (olds:List Value) (co:List AV) (s0:St),(Builtin.firstCells i.size sLen (.slice base' sLen sCap)).run P w.drew=.ok olds.toArray w.drew→olds.length=sLen*el.size→VL C w co olds→sCap<sLen+k→sLen+k≤most→AV.lowL 0 (co++cy)=true→Rel base C s0 w→s0.objs=s.objs →
   ∃ C2 w2 u,(Builtin.append_ #[t,t2] ty #[.slice base' sLen sCap,uy]).run P w=.ok u w2∧Stp base bs C s0 w C2 (newAr s0 (co++cy)) w2∧V C2 w2 (.os s0.nxt el (sLen+k)) u:=by
  intro base' sLen sCap olds co s0 hold hol hVo hcap hm hl0 R0 ho0
  have hm':sLen+k≤1000000:=by unfold most at hm;exact hm
  have hbb:(sLen+k)*i.bytes≤140737488355328:=by
   have h1:(sLen+k)*i.bytes≤1000000*1000:=Nat.mul_le_mul hm' hb
   omega
  have hrun:=run_append_grow_src (P:=P) w t t2 ty e i zv ht hi z2 base' sLen sCap olds hold uy k us hsrc' hcap (by omega) (growslice_fits hcap hbb)
  have hge:=grownCap_ge w (sLen+k) sCap e
  have hall:((olds++us).toArray++Builtin.zeroCells zv.cells (grownCap w (sLen+k) sCap e - (sLen+k))).size=grownCap w (sLen+k) sCap e*el.size:=by
   rw[Array.size_append,size_zeroCells,z3,hs,List.size_toArray,List.length_append,hol,hlen,←Nat.add_mul,←Nat.add_mul]
   congr 1
   omega
  have hb0:Below base w (w.drew.alloc (.cells ((olds++us).toArray++Builtin.zeroCells zv.cells (grownCap w (sLen+k) sCap e - (sLen+k))) e)):=((Below.refl base w).drew).alloc R.szb _
  obtain⟨g1,g2,g3⟩:=range_new w.drew ((olds++us).toArray++Builtin.zeroCells zv.cells (grownCap w (sLen+k) sCap e - (sLen+k))) e
  have M:Mv s0.objs.length C w (C.array s0.nxt w.heap.size (grownCap w (sLen+k) sCap e) el.size) (w.drew.alloc (.cells ((olds++us).toArray++Builtin.zeroCells zv.cells (grownCap w (sLen+k) sCap e - (sLen+k))) e)):=by
   have M0:Mv s0.objs.length C w C (w.drew.alloc (.cells ((olds++us).toArray++Builtin.zeroCells zv.cells (grownCap w (sLen+k) sCap e - (sLen+k))) e)):=Mv.world0 R0 (fun q hq=>heap_alloc_old w.drew _ q hq) _
   refine⟨M0.m,fun aa b hb=>?_,M0.hc⟩
   have hne:aa≠s0.nxt:=fun e=>by have:=(R0.alt aa b hb).1;omega
   refine⟨?_,?_,?_⟩
   ·show (if aa=s0.nxt then _ else _)=_;rw[if_neg hne];exact hb
   ·show (if aa=s0.nxt then _ else _)=_;rw[if_neg hne]
   ·show (if aa=s0.nxt then _ else _)=_;rw[if_neg hne]
  have hVL:=VL_app hVo hcy
  refine⟨_,_,_,hrun,Stp.newArray R0 (by rw[ho0];exact hbs) hb0 (by rw[alloc_size];show w.heap.size<w.heap.size+1;omega) (fun q hq=>heap_alloc_old w.drew _ q hq) ⟨olds++us,?_,VL_mv M (VL_low (fun r b h=>(R0.mlt r b h).1) hVL) hVL,g2,fun j hj=>g3 j (by rw[hall];exact hj),hl0⟩,V_array hge⟩
  intro j v hj
  refine g1 j v ?_
  rw[Array.toList_append,List.getElem?_append_left (by simpa using lt_of_some hj)]
  exact hj
 cases x<;>try (cases h;done)
 case nsl =>
  unfold V at hx
  subst hx
  replace h:(if k=0 then some (AV.nsl,s) else if k≤most∧AV.lowL 0 cy=true then some (AV.os s.nxt el k,newAr s cy) else none)=some (r,s2):=h
  split at h
  ·rename_i hk
   subst hk
   injection h with h
   injection h with e1 e2
   subst e1 e2
   refine⟨C,w,.slice none 0 0,?_,Stp.same R hbs,by unfold V;rfl⟩
   have hu:us=[]:=List.eq_nil_of_length_eq_zero (by simpa using hlen)
   subst hu
   rcases hsrc'.kind with ⟨e',hk⟩|hk<;>simp[Builtin.append_,run_underlying ht,run_underlying hk,sizeOf,typeInfo,hi,hsrc'.len,hsrc'.cells]
  ·rename_i hk
   split at h
   ·rename_i hc
    injection h with h
    injection h with e1 e2
    subst e1 e2
    obtain⟨C2,w2,u,g1,g2,g3⟩:=grow none 0 0 [] [] s (by simp[Builtin.firstCells]) (by simp) (by unfold VL;rfl) (by omega) (by omega) hc.2 R rfl
    exact⟨C2,w2,u,g1,by simpa using g2,by simpa using g3⟩
   ·cases h
 case sl el' xs =>
  replace h:(if k=0 then some (AV.sl el' xs,s) else none)=some (r,s2):=h
  split at h
  ·rename_i hk
   subst hk
   injection h with h
   injection h with e1 e2
   subst e1 e2
   have hx0:=hx
   unfold V at hx
   obtain⟨b,cap,hh,us',rfl,h2,h0,h3,h4,h5,h6,h7⟩:=hx
   refine⟨C,w,_,?_,Stp.same R hbs,hx0⟩
   have hu:us=[]:=List.eq_nil_of_length_eq_zero (by simpa using hlen)
   subst hu
   have:=run_append_room_src (P:=P) w t t2 ty e i ht hi b 0 xs.length cap uy 0 [] hsrc' (by omega) (fun j hj=>by cases hj) (fun j hj=>by cases hj)
   simpa[World.setCells] using this
  ·cases h
 case os a el' n =>
  unfold V at hx
  obtain⟨b,h1,rfl,h3,h4⟩:=hx
  unfold agrow at h
  dsimp only at h
  cases hob:s.arr a with
  | none=>rw[hob] at h;cases h
  | some cs =>
   rw[hob] at h
   dsimp only at h
   split at h
   ·rename_i hc
    obtain⟨c0,c1,c2,c3⟩:=hc
    injection h with h
    injection h with e1 e2
    subst e1 e2
    have hlive:s.arr a≠none:=by rw[hob];intro h;cases h
    obtain⟨us0,g1,g2,g3,g4,glow⟩:=R.ar a _ b hob h1
    have hVt:=VL_take (n*el.size) g2
    have hlt:(us0.take (n*el.size)).length=n*el.size:=by rw[List.length_take,VL_len g2];omega
    by_cases hroom:n+k≤C.cp a
    ·have haz:C.cp a*C.az a=C.cp a*el.size:=by rw[h3,c0]
     rw[haz] at g4
     have hfit:n*el.size+us.length≤C.cp a*el.size:=by rw[hlen,←Nat.add_mul];exact Nat.mul_le_mul_right _ hroom
     have hrun:=run_append_room_src (P:=P) w t t2 ty e i ht hi b 0 n (C.cp a) uy k us hsrc' hroom (fun j hj=>by rw[Nat.zero_add,hs];exact g4 _ (by omega)) (fun j hj=>g3 _)
     rw[Nat.zero_add,hs] at hrun
     obtain⟨k1,k2⟩:=heap_setCells b us (n*el.size) w
     have hblt:=(R.alt a b h1).2.2
     have hsome:∀ j,j<us.length→(w.cell? ⟨b,n*el.size+j,none⟩).isSome=true:=fun j hj=>g4 _ (by omega)
     have hVL:=VL_app hVt hcy
     have han:a≠s.nxt:=fun e=>by have:=(R.alt a b h1).1;omega
     have M:Mv s.objs.length C w (C.array s.nxt b (C.cp a) (C.az a)) (w.setCells b (n*el.size) us):=by
      have M0:Mv s.objs.length C w C (w.setCells b (n*el.size) us):=Mv.world R (q:=some b) (fun b' h=>by injection h with h;subst h;exact R.ah a b h1 hlive) (fun k hk hq=>k2 k (fun e=>hq (by rw[e]))) _
      refine⟨M0.m,fun aa b' hb'=>?_,M0.hc⟩
      have hne:aa≠s.nxt:=fun e=>by have:=(R.alt aa b' hb').1;omega
      refine⟨?_,?_,?_⟩
      ·show (if aa=s.nxt then _ else _)=_;rw[if_neg hne];exact hb'
      ·show (if aa=s.nxt then _ else _)=_;rw[if_neg hne]
      ·show (if aa=s.nxt then _ else _)=_;rw[if_neg hne]
     have hrange:(w.setCells b (n*el.size) us).rangeAt b 0 (us0.take (n*el.size)++us):=by
      intro j v hj
      rw[Nat.zero_add]
      by_cases hj2:j<n*el.size
      ·rw[List.getElem?_append_left (by omega)] at hj
       rw[World.cell?_setCells_out b us _ w _ (fun _ _=>.inl hj2)]
       have:=rangeAt_take g1 (n*el.size) j v hj
       rw[Nat.zero_add] at this
       exact this
      ·rw[List.getElem?_append_right (by omega),hlt] at hj
       have hlt2:=lt_of_some hj
       have hin:=World.cell?_setCells_in b us (n*el.size) w hsome (j - n*el.size) hlt2
       rw[show n*el.size+(j - n*el.size)=j by omega] at hin
       rw[hin,←hj,List.getElem?_eq_getElem hlt2]
     obtain⟨q1,q2⟩:=R.again (cs:=cs.take (n*el.size)++cy) h1 hlive (by rw[k1];exact Nat.le_refl _) (fun q hq hqb=>k2 q hqb)
      ⟨us0.take (n*el.size)++us,hrange,VL_mv M (VL_low (fun r b h=>(R.mlt r b h).1) hVL) hVL,fun j=>by rw[World.frozen?_setCells];exact g3 j,fun j hj=>World.isSome_setCells b _ _ _ _ (g4 j (by rw[haz] at hj;exact hj)),lowL_app (lowL_take _ glow) c3⟩
     refine⟨_,_,_,hrun,⟨q1,q2,below_setCells b hblt _ _ _,Nat.le_refl _,fun _ _ h=>h,fun aa haa h=>(by show (if aa=s.nxt then _ else _)=_;rw[if_neg (by omega)];exact h),Nat.le_succ _,fun q hq hcl=>hcl⟩,?_⟩
     have hv:=V_array (C:=C) (w:=w.setCells b (n*el.size) us) (a:=s.nxt) (b:=b) (cp:=C.cp a) (el:=el) (n:=n+k) hroom
     rw[show el.size=C.az a by rw[h3,c0]] at hv
     exact hv
    ·have hfc:(Builtin.firstCells i.size n (.slice (some ⟨b,0,none⟩) n (C.cp a))).run P w.drew=.ok (us0.take (n*el.size)).toArray w.drew:=by
      refine run_firstCells_some (P:=P) w.drew i.size n ⟨b,0,none⟩ n (C.cp a) _ (by rw[hlt,hs]) (fun j v hj=>?_)
      rw[Addr.add_mid]
      exact range_heap (w:=w) (drew_heap w) (rangeAt_take g1 _) j v hj
     obtain⟨C2,w2,u,a1,a2,a3⟩:=grow (some ⟨b,0,none⟩) n (C.cp a) _ (cs.take (n*el.size)) { s with arr:=upd s.arr a none } hfc hlt hVt (by omega) c2 (lowL_app (lowL_take _ glow) c3) (R.kill a) rfl
     exact⟨C2,w2,u,a1,(⟨R.kill a,Mv.refl _ _ _,rfl,rfl,rfl,rfl⟩:Gho base w C s C { s with arr:=upd s.arr a none }).stp a2,a3⟩
   ·cases h
theorem eev_ok {o:Oper} {ao:AOp} {fz:Bool} {base bs C s w e a r s2} (R:Rel base C s w) (hbs:bs≤s.objs.length) (hT:trOp P o fz=some ao) (hF:FR C w e a) (h:eev bs ao e s=some (r,s2)) :
  OpOK P base bs o a C s w r s2:=by
 by_cases hp:eev bs ao e s=aev ao e s
 ·rw[hp] at h
  exact aev_ok R hbs hT hF h
 have hfr:=from_ok hT
 obtain⟨dst,op,ty,pos,after,guard⟩:=o
 cases ao<;>try (exact absurd rfl hp)
 case store n p x z =>
  obtain⟨t,p',x',i,rfl,hi,hn,hpx,hxx,rfl⟩:=hfr
  replace h:((p.ev e).bind fun p=>(x.ev e).bind fun v=>(frzIf z v s).bind fun q=>astore bs n q.2 q.1 p)=some (r,s2):=h
  cases q1:p.ev e with
  | none=>rw[q1] at h;cases h
  | some pv =>
   rw[q1] at h
   replace h:((x.ev e).bind fun v=>(frzIf z v s).bind fun q=>astore bs n q.2 q.1 pv)=some (r,s2):=h
   cases q2:x.ev e with
   | none=>rw[q2] at h;cases h
   | some xv =>
    rw[q2] at h
    replace h:((frzIf z xv s).bind fun q=>astore bs n q.2 q.1 pv)=some (r,s2):=h
    cases q3:frzIf z xv s with
    | none=>rw[q3] at h;cases h
    | some q =>
     obtain⟨v1,s1⟩:=q
     rw[q3] at h
     replace h:astore bs n s1 v1 pv=some (r,s2):=h
     obtain⟨C1,g1,g2⟩:=frzIf_ok _ _ _ _ _ _ R (ev_ok hF hxx q2) q3
     have hpv:=V_mv g1.mv (R.low (ev_ok hF hpx q1)) (ev_ok hF hpx q1)
     obtain⟨C2,w2,k1,rfl,k3⟩:=astore_ok g1.rel (by rw[g1.objs];exact hbs) hi hn g2 hpv h
     refine⟨C2,w2,undef,.inr ⟨?_,rfl⟩,g1.stp k3,by unfold V;rfl⟩
     simp[execOp,k1]
 case upd m k x z =>
  obtain⟨t,m',k',x',key,ee,hop,hu,hk,hm,hkk,hx,rfl⟩:=hfr
  replace h:((m.ev e).bind fun a=>(k.ev e).bind fun b=>(x.ev e).bind fun v=>(frzIf z v s).bind fun q=>aupd q.2 q.1 a b)=some (r,s2):=h
  cases q1:m.ev e with
  | none=>rw[q1] at h;cases h
  | some mv =>
   rw[q1] at h
   replace h:((k.ev e).bind fun b=>(x.ev e).bind fun v=>(frzIf z v s).bind fun q=>aupd q.2 q.1 mv b)=some (r,s2):=h
   cases q2:k.ev e with
   | none=>rw[q2] at h;cases h
   | some kv =>
    rw[q2] at h
    replace h:((x.ev e).bind fun v=>(frzIf z v s).bind fun q=>aupd q.2 q.1 mv kv)=some (r,s2):=h
    cases q3:x.ev e with
    | none=>rw[q3] at h;cases h
    | some xv =>
     rw[q3] at h
     replace h:((frzIf z xv s).bind fun q=>aupd q.2 q.1 mv kv)=some (r,s2):=h
     cases q4:frzIf z xv s with
     | none=>rw[q4] at h;cases h
     | some q =>
      obtain⟨v1,s1⟩:=q
      rw[q4] at h
      replace h:aupd s1 v1 mv kv=some (r,s2):=h
      obtain⟨C1,g1,g2⟩:=frzIf_ok _ _ _ _ _ _ R (ev_ok hF hx q3) q4
      have hmv:=V_mv g1.mv (R.low (ev_ok hF hm q1)) (ev_ok hF hm q1)
      have hkv:=V_mv g1.mv (R.low (ev_ok hF hkk q2)) (ev_ok hF hkk q2)
      obtain⟨C2,w2,k1,rfl,k3⟩:=aupd_ok (P:=P) g1.rel (by rw[g1.objs];exact hbs) hu hk hmv hkv g2 h
      refine⟨C2,w2,undef,.inr ⟨?_,rfl⟩,g1.stp k3,by unfold V;rfl⟩
      rcases hop with hop|hop<;>(replace hop:op=_:=hop;subst hop;simp[execOp,k1])
 case app el x y z =>
  obtain⟨c,t,t2,ee,e2,zs,i,rfl,hcal,hxs,ht0,ht1,hu,hu2,hel,hz,hi,hb,hpos,rfl⟩:=hfr
  obtain⟨callee,args,ats⟩:=c
  replace hcal:callee=_:=hcal
  subst hcal
  obtain⟨xo,yo,hargs,hx,hy⟩:∃ p q,args = #[p,q]∧trX p=some x∧trX q=some y:=by
   have hl:=trXs_len hxs
   replace hxs:trXs args.toList=some [x,y]:=hxs
   obtain⟨l⟩:=args
   match l,hl,hxs with
   | [p,q],_,hq =>
    unfold trXs at hq
    cases h1:trX p with
    | none=>simp only[h1] at hq;cases hq
    | some p' =>
     unfold trXs at hq
     cases h2:trX q with
     | none=>simp only[h1,h2] at hq;cases hq
     | some q' =>
      simp only[h1,h2,trXs] at hq
      injection hq with hq
      injection hq with hq1 hq2
      injection hq2 with hq2 _
      subst hq1 hq2
      exact⟨p,q,rfl,h1,h2⟩
  subst hargs
  obtain⟨d,inf,hd,hinf,hs,-⟩:=elOf_spec hel
  rw[hi] at hinf
  injection hinf with hinf
  subst hinf
  replace h:((x.ev e).bind fun a=>(y.ev e).bind fun b=>(flat el b s).bind fun p=>(frzAllIf z p.2 s).bind fun q=>agrow q.2 el p.1 q.1 a)=some (r,s2):=h
  cases q1:x.ev e with
  | none=>rw[q1] at h;cases h
  | some xv =>
   rw[q1] at h
   replace h:((y.ev e).bind fun b=>(flat el b s).bind fun p=>(frzAllIf z p.2 s).bind fun q=>agrow q.2 el p.1 q.1 xv)=some (r,s2):=h
   cases q2:y.ev e with
   | none=>rw[q2] at h;cases h
   | some yv =>
    rw[q2] at h
    replace h:((flat el yv s).bind fun p=>(frzAllIf z p.2 s).bind fun q=>agrow q.2 el p.1 q.1 xv)=some (r,s2):=h
    cases q3:flat el yv s with
    | none=>rw[q3] at h;cases h
    | some p =>
     obtain⟨k,cy⟩:=p
     rw[q3] at h
     replace h:((frzAllIf z cy s).bind fun q=>agrow q.2 el k q.1 xv)=some (r,s2):=h
     obtain⟨us,f1,f2,hsrc⟩:=flat_ok (P:=P) R hpos hu2 (ev_ok hF hy q2) q3
     cases q4:frzAllIf z cy s with
     | none=>rw[q4] at h;cases h
     | some q =>
      obtain⟨cy1,s1⟩:=q
      rw[q4] at h
      replace h:agrow s1 el k cy1 xv=some (r,s2):=h
      obtain⟨C1,g1,g2⟩:=frzAllIf_L R f1 q4
      have hxv:=V_mv g1.mv (R.low (ev_ok hF hx q1)) (ev_ok hF hx q1)
      obtain⟨C2,w2,u,k1,k2,k3⟩:=agrow_ok (P:=P) (ty:=ty) g1.rel (by rw[g1.objs];exact hbs) hpos hu hi hs hz hb hxv g2 f2 hsrc h
      refine⟨C2,w2,u,.inl ?_,g1.stp k2,k3⟩
      have hats:∀ ty,Builtin.append_ ats ty #[a.eval xo,a.eval yo]=Builtin.append_ #[t,t2] ty #[a.eval xo,a.eval yo]:=by
       intro ty
       unfold Builtin.append_
       simp only[ht0,ht1]
       rfl
      simp[execOp,resolve,invoke,builtin,hats,k1]
end Go.Am
namespace Go.Am
open Go Go.RowKit
variable {P:Program}
def Sim (P:Program) (base f:Nat) (args:List AV) (s:St) (r:AV) (s2:St):Prop :=
 (∃ fn,P.funcs[f]?=some fn∧(fn.name == "runtime.NumGoroutine")=false∧fn.body.isNone=false) ∧
 ∀ C w us,Rel base C s w→VT C w args us→Calls P f us.toArray w fun e w'=>∃ C' u,e=.returned u∧Stp base s.objs.length C s w C' s2 w'∧V C' w' r u
def SimC (P:Program) (base:Nat) (cal:Nat→List AV→St→Option (AV × St)):Prop:=∀ f args s r s2,cal f args s=some (r,s2)→Sim P base f args s r s2
theorem Stp.bs {base b b' C s w C' s' w'} (h:Stp base b' C s w C' s' w') (hb:b≤b'):Stp base b C s w C' s' w' :=
 ⟨h.rel,h.mv,h.be,h.ol,h.um,h.ua,h.nx,fun k hk=>h.cl k (by omega)⟩
theorem VT_app {C w}:∀ {xs ys us vs},VT C w xs us→VT C w ys vs→VT C w (xs++ys) (us++vs)
 | [],ys,us,vs,h,k=>by unfold VT at h;subst h;exact k
 | x::xs,ys,us,vs,h,k=>by
  unfold VT at h
  obtain⟨u,us',rfl,h1,h2⟩:=h
  show VT C w (x::(xs++ys)) (u::(us'++vs))
  unfold VT
  exact⟨u,us'++vs,rfl,h1,VT_app h2 k⟩
theorem opv_ok {o:Oper} {ao:AOp} {fz:Bool} {base bs C s w e a r s2 cal} (hcal:SimC P base cal) (R:Rel base C s w) (hbs:bs≤s.objs.length) (hT:trOp P o fz=some ao) (hF:FR C w e a) (h:opv cal bs ao e s=some (r,s2))
  {K:Act→World→Prop} {Q:Exit→Act→World→Prop} (hK:∀ C2 w2 u,Stp base bs C s w C2 s2 w2→V C2 w2 r u→K (a.put o.dst u) w2):o.wp P a w K Q:=by
 by_cases hp:opv cal bs ao e s=eev bs ao e s
 ·rw[hp] at h
  obtain⟨C2,w2,u,h1|⟨h1,rfl⟩,h2,h3⟩:=eev_ok R hbs hT hF h
  ·unfold Oper.wp
   rw[h1]
   exact hK C2 w2 u h2 h3
  ·unfold Oper.wp
   rw[h1]
   exact hK C2 w2 undef h2 h3
 have hfr:=from_ok hT
 cases ao<;>try (exact absurd rfl hp)
 rename_i f xs z
 obtain⟨c,f',hop,hcc,hf,hxs,rfl⟩:=hfr
 replace h:((f.ev e).bind fun f=>(evs e xs).bind fun vs=>(frzAllIf z vs s).bind fun q=>acall cal q.1 q.2 f)=some (r,s2):=h
 cases q1:f.ev e with
 | none=>rw[q1] at h;cases h
 | some fv =>
  rw[q1] at h
  replace h:((evs e xs).bind fun vs=>(frzAllIf z vs s).bind fun q=>acall cal q.1 q.2 fv)=some (r,s2):=h
  cases q2:evs e xs with
  | none=>rw[q2] at h;cases h
  | some vs =>
   rw[q2] at h
   replace h:((frzAllIf z vs s).bind fun q=>acall cal q.1 q.2 fv)=some (r,s2):=h
   cases q3:frzAllIf z vs s with
   | none=>rw[q3] at h;cases h
   | some q =>
    obtain⟨vs1,s1⟩:=q
    rw[q3] at h
    replace h:acall cal vs1 s1 fv=some (r,s2):=h
    cases fv<;>try (cases h;done)
    rename_i g caps
    replace h:cal g (vs1++caps) s1=some (r,s2):=h
    have hVf:=ev_ok hF hf q1
    have hVs:=evs_ok hF hxs q2
    obtain⟨C1,g1,g2⟩:=frzAllIf_T R hVs q3
    have hVf1:=V_mv g1.mv (R.low hVf) hVf
    unfold V at hVf1
    obtain⟨cv,hfv,hcv⟩:=hVf1
    obtain⟨⟨fn,hfn,hnm,hbd⟩,hsim⟩:=hcal _ _ _ _ _ h
    have hca:=hsim C1 w _ g1.rel (VT_app g2 hcv)
    have hrun:(execOp a.eval o).run P w=.ok (.enter g ((c.args.toList.map a.eval)++cv.toList).toArray) w:=by
     have harr:(c.args.map a.eval++cv)=((c.args.toList.map a.eval)++cv.toList).toArray:=by
      apply Array.ext'
      simp
     unfold execOp
     rw[hop]
     simp only[resolve,hcc,hfv,Deferred.ofValue,Sem.run_bind,Sem.run_pure,Result.andThen_ok,invoke,callFunc,run_program,hfn,hnm,hbd,Bool.false_eq_true,if_false,Array.empty_append,harr]
    unfold Oper.wp
    rw[hrun]
    refine hca.mono ?_
    rintro e' w' ⟨C2,u,rfl,k1,k2⟩
    exact hK C2 w' u (g1.stp (k1.bs (by rw[g1.objs];exact hbs))) k2
def trAX (P:Program) (n:Nat) (ops:Array Oper) (o:Oper) (fz:Bool):Option AX :=
 match trOp P o fz,(match o.dst with|some d=>decide (d<n)|none=>true),o.guard with
 | some ao,true,none=>some ⟨o.dst,ao,none,[]⟩
 | some ao,true,some (j,b) =>
  match (ops[j]?).bind (·.dst) with
  | some d=>some ⟨o.dst,ao,some (d,b),[]⟩
  | none=>none
 | _,_,_=>none
theorem trAX_spec {n ops o fz x} (h:trAX P n ops o fz=some x):trOp P o fz=some x.op∧x.dst=o.dst∧x.chk=[]∧(∀ d,o.dst=some d→d<n)∧match o.guard with
  | none=>x.grd=none
  | some (j,b)=>∃ d,(ops[j]?).bind (·.dst)=some d∧x.grd=some (d,b):=by
 unfold trAX at h
 split at h
 ·rename_i ao h1 h2 h3
  injection h with h
  subst h
  refine⟨h1,rfl,rfl,fun d hd=>?_,by rw[h3]⟩
  rw[hd] at h2
  simpa using h2
 ·rename_i ao j b h1 h2 h3
  cases hd:(ops[j]?).bind (·.dst) with
  | none=>rw[hd] at h;cases h
  | some d =>
   rw[hd] at h
   injection h with h
   subst h
   refine⟨h1,rfl,rfl,fun d hd=>?_,?_⟩
   ·rw[hd] at h2
    simpa using h2
   ·rw[h3];exact⟨d,hd,rfl⟩
 ·cases h
def trPlain (P:Program) (n:Nat) (ops:Array Oper):List Oper→List Bool→Option (List AX)
 | [],_=>some []
 | o::os,fz =>
  match trAX P n ops o (fz.headD false),trPlain P n ops os fz.tail with
  | some x,some xs=>some (x::xs)
  | _,_=>none
theorem wanted_gs {C w e a ops} {o:Oper} {x:AX} {t} (hg:match o.guard with
  | none=>x.grd=none
  | some (j,b)=>∃ d,(ops[j]?).bind (·.dst)=some d∧x.grd=some (d,b)) (hF:FR C w e a) (h:wanted x.grd e=some t):Region.wanted o (yielded ops a.tmps)=t:=by
 unfold Region.wanted
 cases hgo:o.guard with
 | none =>
  rw[hgo] at hg
  dsimp only at hg
  rw[hg] at h
  injection h with h
 | some p =>
  obtain⟨j,b⟩:=p
  rw[hgo] at hg
  obtain⟨d,h1,h2⟩:=hg
  rw[h2] at h
  dsimp only
  unfold wanted at h
  dsimp only at h
  cases hge:get e d with
  | none=>rw[hge] at h;cases h
  | some v =>
   rw[hge] at h
   have hV:=hF d v hge
   unfold yielded
   rw[h1]
   dsimp only[Option.bind_some]
   cases v<;>try (cases h;done)
   ·injection h with h
    subst h
    unfold V at hV
    cases ht:a.tmps[d]? with
    | none=>simp
    | some q =>
     rw[Array.getD_eq_getD_getElem?,ht] at hV
     replace hV:q=undef:=hV
     subst hV
     rfl
   ·rename_i y
    injection h with h
    subst h
    unfold V at hV
    cases ht:a.tmps[d]? with
    | none=>rw[Array.getD_eq_getD_getElem?,ht] at hV;cases hV
    | some q =>
     rw[Array.getD_eq_getD_getElem?,ht] at hV
     replace hV:q=.bool y:=hV
     subst hV
     cases y<;>cases b<;>rfl
theorem wanted_ok {C w e a n ops o fz x t} (hx:trAX P n ops o fz=some x) (hF:FR C w e a) (h:wanted x.grd e=some t):Region.wanted o (yielded ops a.tmps)=t:=wanted_gs (trAX_spec hx).2.2.2.2 hF h
theorem get_put {e d v t}:get (put e d v) t=if d=some t then some v else get e t:=by
 cases d with
 | none=>rfl
 | some d =>
  show (if d=t then some v else get e t)=_
  by_cases h:d=t
  ·rw[if_pos h,if_pos (by rw[h])]
  ·rw[if_neg h,if_neg (by intro hh;injection hh with hh;exact h hh)]
theorem put_tmps {a:Act} {d:Option Nat} {u:Value} {t:Nat} (hd:∀ q,d=some q→q<a.tmps.size):(a.put d u).tmps.getD t undef=if d=some t then u else a.tmps.getD t undef:=by
 cases d with
 | none=>rfl
 | some d =>
  have:=hd d rfl
  show (a.tmps.setIfInBounds d u).getD t undef=_
  by_cases h:d=t
  ·subst h
   rw[if_pos rfl,Array.getD_eq_getD_getElem?,Array.getElem?_setIfInBounds_self_of_lt this]
   rfl
  ·rw[if_neg (by intro hh;injection hh with hh;exact h hh),Array.getD_eq_getD_getElem?,Array.getElem?_setIfInBounds_ne h,←Array.getD_eq_getD_getElem?]
theorem put_size {a:Act} {d:Option Nat} {u:Value}:(a.put d u).tmps.size=a.tmps.size∧(a.put d u).defers=a.defers:=by
 cases d with
 | none=>exact⟨rfl,rfl⟩
 | some d=>exact⟨by show (a.tmps.setIfInBounds d u).size=_;simp,rfl⟩
theorem FR_put {C w e a d v u} (hF:FR C w e a) (hv:V C w v u) (hd:∀ q,d=some q→q<a.tmps.size):FR C w (put e d v) (a.put d u):=by
 intro t x hx
 rw[get_put] at hx
 rw[put_tmps hd]
 by_cases h:d=some t
 ·rw[if_pos h] at hx ⊢
  injection hx with hx
  subst hx
  exact hv
 ·rw[if_neg h] at hx ⊢
  exact hF t x hx
structure Af (base bs:Nat) (C:Cx) (s:St) (w:World) (a:Act) (e':Env) (s':St) (a':Act) (w':World):Prop where
 ex:∃ C',Stp base bs C s w C' s' w'∧FR C' w' e' a'
 sz:a'.tmps.size=a.tmps.size
 de:a'.defers=a.defers
theorem Stp.trans {base bs C s w C1 s1 w1 C2 s2 w2} (h:Stp base bs C s w C1 s1 w1) (k:Stp base bs C1 s1 w1 C2 s2 w2):Stp base bs C s w C2 s2 w2 :=
 ⟨k.rel,h.mv.trans (k.mv.le h.ol),h.be.trans k.be,Nat.le_trans h.ol k.ol,fun r hr hm=>k.um r (by have:=h.ol;omega) (h.um r hr hm),fun a ha hm=>k.ua a (by have:=h.nx;omega) (h.ua a ha hm),Nat.le_trans h.nx k.nx,fun q hq hc=>k.cl q hq (h.cl q hq hc)⟩
theorem Af.mk0 {base bs C s w a e' s' a' w' C'} (h:Stp base bs C s w C' s' w') (hF:FR C' w' e' a') (h1:a'.tmps.size=a.tmps.size) (h2:a'.defers=a.defers):Af base bs C s w a e' s' a' w':=⟨⟨C',h,hF⟩,h1,h2⟩
theorem plain_ok {base bs n cal} {ops:Array Oper} {Q:Exit→Act→World→Prop} (hcal:SimC P base cal):∀ {os:List Oper} {fz k axs C s w e a e' s'},trPlain P n ops os fz=some axs→(∀ j,os[j]?=ops[k+j]?)→Rel base C s w→bs≤s.objs.length→FR C w e a→a.tmps.size=n →
  runOps cal bs axs e s=some (e',s')→(∀ a' w',Af base bs C s w a e' s' a' w'→Q .normal a' w')→wpOps P ops Q (List.range' k os.length) a w
 | [],fz,k,axs,C,s,w,e,a,e',s',ht,hk,R,hbs,hF,hn,hr,hQ=>by
  injection ht with ht
  subst ht
  injection hr with hr
  injection hr with h1 h2
  subst h1 h2
  exact hQ a w ⟨⟨C,Stp.same R hbs,hF⟩,rfl,rfl⟩
 | o::os,fz,k,axs,C,s,w,e,a,e',s',ht,hk,R,hbs,hF,hn,hr,hQ=>by
  unfold trPlain at ht
  cases hx:trAX P n ops o (fz.headD false) with
  | none=>simp only[hx] at ht;cases ht
  | some x =>
   cases hxs:trPlain P n ops os fz.tail with
   | none=>simp only[hx,hxs] at ht;cases ht
   | some xs =>
    simp only[hx,hxs] at ht
    injection ht with ht
    subst ht
    obtain⟨t1,t2,t3,t4,-⟩:=trAX_spec hx
    have ho:ops[k]?=some o:=by have:=hk 0;simpa using this.symm
    have hk':∀ j,os[j]?=ops[k+1+j]?:=fun j=>by have:=hk (j+1);simp at this;rw[this];congr 1;omega
    have hd:∀ q,o.dst=some q→q<a.tmps.size:=fun q hq=>by rw[hn];exact t4 q hq
    show wpOps P ops Q (k::List.range' (k+1) os.length) a w
    rw[wpOps_cons]
    unfold wpOp
    rw[ho]
    dsimp only
    rw[runOps_cons] at hr
    cases hw:wanted x.grd e with
    | none=>rw[hw] at hr;cases hr
    | some t =>
     rw[hw] at hr
     have hwo:=wanted_ok hx hF hw
     cases t with
     | false =>
      rw[if_neg (by rw[hwo];exact Bool.false_ne_true)]
      rw[nx_false,t2] at hr
      refine plain_ok hcal hxs hk' R hbs (FR_put hF (by unfold V;rfl) hd) (put_size.1.trans hn) hr (fun a' w' h=>hQ a' w' ⟨h.ex,h.sz.trans put_size.1,h.de.trans put_size.2⟩)
     | true =>
      rw[if_pos hwo]
      rw[nx_true] at hr
      cases hop:opv cal bs x.op e s with
      | none=>rw[hop] at hr;cases hr
      | some q =>
       obtain⟨v,s2⟩:=q
       rw[hop] at hr
       rw[stp_chk (by rw[t3];trivial),t2] at hr
       refine .inl (opv_ok hcal R hbs t1 hF hop (fun C2 w2 u h1 h2=>?_))
       have hF2:FR C2 w2 e a:=FR_mv' R h1.mv hF
       refine plain_ok hcal hxs hk' h1.rel (Nat.le_trans hbs h1.ol) (FR_put hF2 h2 hd) (put_size.1.trans hn) hr (fun a' w' h=>hQ a' w' ?_)
       obtain⟨⟨C3,k1,k2⟩,k3,k4⟩:=h
       exact⟨⟨C3,h1.trans k1,k2⟩,k3.trans put_size.1,k4.trans put_size.2⟩
end Go.Am
namespace Go.Am
open Go Go.RowKit
variable {P:Program}
def AOp.isE:AOp→Bool
 | .store .. | .upd .. | .app .. | .call .. => true
 | _=>false
def AOp.isL:AOp→Bool
 | .load .. | .look .. => true
 | _=>false
def AOp.isA:AOp→Bool
 | .alloc _|.box0 _|.mkm|.bsl .. | .msl .. => true
 | _=>false
def AOp.isN:AOp→Bool
 | .box _=>true
 | _=>false
def Arg.us:Arg→List Nat
 | .t i=>[i]
 | .c _=>[]
def usO:Option Arg→List Nat
 | some x=>x.us
 | none=>[]
def usP (ps:List (Nat × Nat × Arg)):List Nat:=ps.flatMap fun p=>p.2.2.us
def AOp.us:AOp→List Nat
 | .mv x|.nck x|.un _ x|.conv _ x|.len _ x|.fad _ x|.fld _ _ x|.ext x _|.load _ x|.box x|.box0 x=>x.us
 | .pick c a b=>c.us++a.us++b.us
 | .bin _ x y|.eqs _ _ x y|.min x y|.iad _ x y|.idx x y|.msl _ _ x y|.look _ x y _|.store _ x y _|.app _ x y _=>x.us++y.us
 | .mkf _ xs=>xs.flatMap Arg.us
 | .build _ ps|.bsl _ _ _ ps=>usP ps
 | .slc _ x lo hi=>x.us++usO lo++usO hi
 | .alloc _|.mkm=>[]
 | .upd m k x _=>m.us++k.us++x.us
 | .call f xs _=>f.us++xs.flatMap Arg.us
def usG:Option (Nat × Bool)→List Nat
 | some (t,_)=>[t]
 | none=>[]
theorem ev_cg {e e':Env}:∀ {x:Arg},(∀ t∈x.us,get e t=get e' t)→x.ev e=x.ev e'
 | .t i,h=>h i (by simp[Arg.us])
 | .c _,_=>rfl
theorem evs_cg {e e':Env}:∀ {xs:List Arg},(∀ t∈xs.flatMap Arg.us,get e t=get e' t)→evs e xs=evs e' xs
 | [],_=>rfl
 | x::xs,h=>by
  unfold evs
  rw[ev_cg (x:=x) (fun t ht=>h t (by rw[List.flatMap_cons];exact List.mem_append_left _ ht)),evs_cg (xs:=xs) (fun t ht=>h t (by rw[List.flatMap_cons];exact List.mem_append_right _ ht))]
theorem evp_cg {e e':Env}:∀ {ps:List (Nat × Nat × Arg)},(∀ t∈usP ps,get e t=get e' t)→evp e ps=evp e' ps
 | [],_=>rfl
 | (o,n,x)::ps,h=>by
  unfold evp
  rw[ev_cg (x:=x) (fun t ht=>h t (by unfold usP;rw[List.flatMap_cons];exact List.mem_append_left _ ht)),evp_cg (ps:=ps) (fun t ht=>h t (by unfold usP;rw[List.flatMap_cons];exact List.mem_append_right _ ht))]
theorem evo_cg {e e':Env}:∀ {x:Option Arg},(∀ t∈usO x,get e t=get e' t)→evo e x=evo e' x
 | none,_=>rfl
 | some x,h=>by show (x.ev e).map some=(x.ev e').map some;rw[ev_cg h]
theorem opv_cg {cal bs s} {e e':Env} {o:AOp} (h:∀ t∈o.us,get e t=get e' t):opv cal bs o e s=opv cal bs o e' s∧lev o e s=lev o e' s∧pev o e=pev o e'∧aev o e s=aev o e' s:=by
 cases o<;>simp only[AOp.us,List.mem_append] at h
 case mkf f xs=>simp only[opv,eev,aev,lev,pev,evs_cg h];exact⟨trivial,trivial,trivial,trivial⟩
 case build z ps=>simp only[opv,eev,aev,lev,pev,evp_cg h];exact⟨trivial,trivial,trivial,trivial⟩
 case bsl el z n ps=>simp only[opv,eev,aev,lev,pev,evp_cg h];exact⟨trivial,trivial,trivial,trivial⟩
 case call f xs z=>simp only[opv,eev,aev,lev,pev,ev_cg (fun t ht=>h t (.inl ht)),evs_cg (fun t ht=>h t (.inr ht))];exact⟨trivial,trivial,trivial,trivial⟩
 case slc s x lo hi=>simp only[opv,eev,aev,lev,pev,ev_cg (fun t ht=>h t (.inl (.inl ht))),evo_cg (fun t ht=>h t (.inl (.inr ht))),evo_cg (fun t ht=>h t (.inr ht))];exact⟨trivial,trivial,trivial,trivial⟩
 case pick c a b=>simp only[opv,eev,aev,lev,pev,ev_cg (fun t ht=>h t (.inl (.inl ht))),ev_cg (fun t ht=>h t (.inl (.inr ht))),ev_cg (fun t ht=>h t (.inr ht))];exact⟨trivial,trivial,trivial,trivial⟩
 case upd c a b=>simp only[opv,eev,aev,lev,pev,ev_cg (fun t ht=>h t (.inl (.inl ht))),ev_cg (fun t ht=>h t (.inl (.inr ht))),ev_cg (fun t ht=>h t (.inr ht))];exact⟨trivial,trivial,trivial,trivial⟩
 case alloc=>exact⟨rfl,rfl,rfl,rfl⟩
 case mkm=>exact⟨rfl,rfl,rfl,rfl⟩
 all_goals first
  | (simp only[opv,eev,aev,lev,pev,ev_cg h];exact⟨trivial,trivial,trivial,trivial⟩)
  | (simp only[opv,eev,aev,lev,pev,ev_cg (fun t ht=>h t (.inl ht)),ev_cg (fun t ht=>h t (.inr ht))];exact⟨trivial,trivial,trivial,trivial⟩)
  | skip
 all_goals
  rename_i op x
  cases op<;>(simp only[opv,eev,aev,lev,pev,ev_cg h];exact⟨trivial,trivial,trivial,trivial⟩)
theorem wanted_cg {e e':Env} {g:Option (Nat × Bool)} (h:∀ t∈usG g,get e t=get e' t):wanted g e=wanted g e':=by
 cases g with
 | none=>rfl
 | some p =>
  obtain⟨t,b⟩:=p
  unfold wanted
  dsimp only
  rw[h t (by simp[usG])]
theorem get_keep {ks:List Nat} {e:Env} {t:Nat}:get (keep ks e) t=if t∈ks then get e t else none:=by
 induction ks with
 | nil=>rfl
 | cons k ks ih =>
  unfold keep at ih ⊢
  rw[List.filterMap_cons]
  cases hk:get e k with
  | none =>
   simp only[Option.map_none]
   rw[ih]
   by_cases h:t=k
   ·subst h
    rw[if_pos (List.mem_cons_self ..),hk]
    split<;>rfl
   ·by_cases h2:t∈ks
    ·rw[if_pos h2,if_pos (List.mem_cons_of_mem _ h2)]
    ·rw[if_neg h2,if_neg (by simp[h,h2])]
  | some v =>
   simp only[Option.map_some]
   show (if k=t then some v else get (List.filterMap _ ks) t)=_
   by_cases h:k=t
   ·subst h
    rw[if_pos rfl,if_pos (List.mem_cons_self ..),hk]
   ·rw[if_neg h,ih]
    by_cases h2:t∈ks
    ·rw[if_pos h2,if_pos (List.mem_cons_of_mem _ h2)]
    ·rw[if_neg h2,if_neg (by simp[Ne.symm h,h2])]
theorem Rel.extBox {base C s w o} (R:Rel base C s w) (hl:o.low (s.objs.length+1)=true):Rel base C (newOb s o) w:=by
 refine⟨R.szb,fun r b h=>?_,R.alt,R.hlt,R.mm,R.aa,R.mx,R.mh,R.ah,R.nx,fun r oo b h1 h2=>?_,R.ar,fun r oo h=>?_⟩
 ·obtain⟨h1,h2,h3⟩:=R.mlt r b h
  exact⟨by show r<(s.objs++[o]).length;simp;omega,h2,h3⟩
 ·have hr:=(R.mlt r b h2).1
  replace h1:(s.objs++[o])[r]?=some oo:=h1
  rw[List.getElem?_append_left hr] at h1
  exact R.obj r oo b h1 h2
 ·show oo.low (s.objs++[o]).length=true
  rw[List.length_append]
  replace h:(s.objs++[o])[r]?=some oo:=h
  by_cases hr:r<s.objs.length
  ·rw[List.getElem?_append_left hr] at h
   exact Ob.low_le (by simp) (R.clo r oo h)
  ·rw[List.getElem?_append_right (by omega)] at h
   have:r - s.objs.length=0:=by
    have:=lt_of_some h
    simp at this
    omega
   rw[this] at h
   injection h with h
   subst h
   exact hl
theorem Rel.extArray {base C s w cs} (R:Rel base C s w):Rel base C (newAr s cs) w:=by
 have hne:∀ a b,C.ma a=some b→a≠s.nxt:=fun a b h e=>by have:=(R.alt a b h).1;omega
 have key:∀ a b,C.ma a=some b→upd s.arr s.nxt (some cs) a=s.arr a:=fun a b h=>upd_ne (hne a b h)
 refine⟨R.szb,R.mlt,fun a b h=>?_,R.hlt,R.mm,fun a a' b h1 h2 h3 h4=>?_,fun r a b h1 h2=>?_,R.mh,fun a b h1 h2=>?_,fun a ha=>?_,R.obj,fun a cs' b h1 h2=>?_,R.clo⟩
 ·obtain⟨q1,q2,q3⟩:=R.alt a b h
  exact⟨by show a<s.nxt+1;omega,q2,q3⟩
 ·replace h3:upd s.arr s.nxt (some cs) a≠none:=h3
  replace h4:upd s.arr s.nxt (some cs) a'≠none:=h4
  rw[key a b h1] at h3
  rw[key a' b h2] at h4
  exact R.aa a a' b h1 h2 h3 h4
 ·show upd s.arr s.nxt (some cs) a=none
  rw[key a b h2];exact R.mx r a b h1 h2
 ·replace h2:upd s.arr s.nxt (some cs) a≠none:=h2
  rw[key a b h1] at h2
  exact R.ah a b h1 h2
 ·show upd s.arr s.nxt (some cs) a=none
  replace ha:s.nxt+1≤a:=ha
  rw[upd_ne (by omega)]
  exact R.nx a (by omega)
 ·replace h1:upd s.arr s.nxt (some cs) a=some cs':=h1
  rw[key a b h2] at h1
  exact R.ar a cs' b h1 h2
theorem Rel.mapBox {base C s w w' r o} (R:Rel base C s w) (ho:s.objs[r]?=some o) (hr:C.m r=none) (hs:w.heap.size<w'.heap.size) (hw:∀ k,k<w.heap.size→w'.heap[k]?=w.heap[k]?) (hO:OR (C.box r w.heap.size) w' o w.heap.size) :
  Rel base (C.box r w.heap.size) s w'∧Mv s.objs.length C w (C.box r w.heap.size) w':=by
 have M0:Mv s.objs.length C w C w':=Mv.world0 R hw _
 have hne:∀ r' b,C.m r'=some b→r'≠r:=fun r' b h e=>by subst e;rw[hr] at h;cases h
 have M:Mv s.objs.length C w (C.box r w.heap.size) w':=⟨fun r' b _ hb=>by
  show (if r'=r then _ else _)=_
  rw[if_neg (hne r' b hb)];exact hb,M0.ma,M0.hc⟩
 have R':=R.world (Nat.le_of_lt hs) hw
 have hm:∀ r' b,(C.box r w.heap.size).m r'=some b→(r'=r∧b=w.heap.size)∨(r'≠r∧C.m r'=some b):=by
  intro r' b h
  replace h:(if r'=r then some w.heap.size else C.m r')=some b:=h
  by_cases hq:r'=r
  ·rw[if_pos hq] at h;injection h with h;exact .inl ⟨hq,h.symm⟩
  ·rw[if_neg hq] at h;exact .inr ⟨hq,h⟩
 refine⟨⟨R'.szb,fun r' b h=>?_,R'.alt,R'.hlt,fun r1 r2 b h1 h2=>?_,R.aa,fun r' a b h1 h2=>?_,fun r' b h=>?_,R.ah,R.nx,fun r' oo b h1 h2=>?_,fun a cs b h1 h2=>?_,R.clo⟩,M⟩
 ·rcases hm r' b h with ⟨rfl,rfl⟩|⟨h1,h2⟩
  ·exact⟨lt_of_some ho,hs,R.szb⟩
  ·exact R'.mlt r' b h2
 ·rcases hm r1 b h1 with ⟨rfl,rfl⟩|⟨g1,g2⟩
  ·rcases hm r2 _ h2 with ⟨rfl,-⟩|⟨k1,k2⟩
   ·rfl
   ·have:=(R.mlt r2 _ k2).2.1;omega
  ·rcases hm r2 b h2 with ⟨rfl,rfl⟩|⟨k1,k2⟩
   ·have:=(R.mlt r1 _ g2).2.1;omega
   ·exact R.mm r1 r2 b g2 k2
 ·rcases hm r' b h1 with ⟨rfl,rfl⟩|⟨g1,g2⟩
  ·have:=(R.alt a _ h2).2.1;omega
  ·exact R.mx r' a b g2 h2
 ·rcases hm r' b h with ⟨rfl,rfl⟩|⟨g1,g2⟩
  ·show C.hc _=none
   cases hh:C.hc w.heap.size with
   | none=>rfl
   | some q=>have:=R.hlt _ _ hh;omega
  ·exact R.mh r' b g2
 ·rcases hm r' b h2 with ⟨rfl,rfl⟩|⟨g1,g2⟩
  ·rw[ho] at h1
   injection h1 with h1
   subst h1
   exact hO
  ·exact OR_mv M (R.clo r' oo h1) (hw b (R.mlt r' b g2).2.1) (R.obj r' oo b h1 g2)
 ·have q:=R.ar a cs b h1 h2
  exact AR_mv M (q.lowL (fun r b h=>(R.mlt r b h).1)) (hw b (R.alt a b h2).2.1) q
theorem Rel.mapArray {base C s w w' a cs cp az} (R:Rel base C s w) (ho:s.arr a=some cs) (hr:C.ma a=none) (hs:w.heap.size<w'.heap.size) (hw:∀ k,k<w.heap.size→w'.heap[k]?=w.heap[k]?) (hO:AR (C.array a w.heap.size cp az) w' cs w.heap.size (cp*az)) :
  Rel base (C.array a w.heap.size cp az) s w'∧Mv s.objs.length C w (C.array a w.heap.size cp az) w':=by
 have M0:Mv s.objs.length C w C w':=Mv.world0 R hw _
 have hne:∀ r' b,C.ma r'=some b→r'≠a:=fun r' b h e=>by subst e;rw[hr] at h;cases h
 have hanx:a<s.nxt:=by
  rcases Nat.lt_or_ge a s.nxt with h|h
  ·exact h
  ·have:=R.nx a h;rw[this] at ho;cases ho
 have M:Mv s.objs.length C w (C.array a w.heap.size cp az) w':=⟨M0.m,fun i b h=>by
  have:=hne i b h
  refine⟨?_,?_,?_⟩
  ·show (if i=a then _ else _)=_;rw[if_neg this];exact h
  ·show (if i=a then _ else _)=_;rw[if_neg this]
  ·show (if i=a then _ else _)=_;rw[if_neg this],M0.hc⟩
 have R':=R.world (Nat.le_of_lt hs) hw
 have hm:∀ i b,(C.array a w.heap.size cp az).ma i=some b→(i=a∧b=w.heap.size)∨(i≠a∧C.ma i=some b):=by
  intro i b h
  replace h:(if i=a then some w.heap.size else C.ma i)=some b:=h
  by_cases hq:i=a
  ·rw[if_pos hq] at h;injection h with h;exact .inl ⟨hq,h.symm⟩
  ·rw[if_neg hq] at h;exact .inr ⟨hq,h⟩
 refine⟨⟨R'.szb,R'.mlt,fun i b h=>?_,R'.hlt,R.mm,fun i j b h1 h2 h3 h4=>?_,fun r i b h1 h2=>?_,R.mh,fun i b h1 h2=>?_,R.nx,fun r oo b h1 h2=>?_,fun i cs' b h1 h2=>?_,R.clo⟩,M⟩
 ·rcases hm i b h with ⟨rfl,rfl⟩|⟨h1,h2⟩
  ·exact⟨hanx,hs,R.szb⟩
  ·exact R'.alt i b h2
 ·rcases hm i b h1 with ⟨rfl,rfl⟩|⟨g1,g2⟩
  ·rcases hm j _ h2 with ⟨rfl,-⟩|⟨k1,k2⟩
   ·rfl
   ·have:=(R.alt j _ k2).2.1;omega
  ·rcases hm j b h2 with ⟨rfl,rfl⟩|⟨k1,k2⟩
   ·have:=(R.alt i _ g2).2.1;omega
   ·exact R.aa i j b g2 k2 h3 h4
 ·rcases hm i b h2 with ⟨rfl,rfl⟩|⟨g1,g2⟩
  ·have:=(R.mlt r _ h1).2.1;omega
  ·exact R.mx r i b h1 g2
 ·rcases hm i b h1 with ⟨rfl,rfl⟩|⟨g1,g2⟩
  ·show C.hc _=none
   cases hh:C.hc w.heap.size with
   | none=>rfl
   | some q=>have:=R.hlt _ _ hh;omega
  ·exact R.ah i b g2 h2
 ·exact OR_mv M (R.clo r oo h1) (hw b (R.mlt r b h2).2.1) (R.obj r oo b h1 h2)
 ·rcases hm i b h2 with ⟨rfl,rfl⟩|⟨g1,g2⟩
  ·rw[ho] at h1
   injection h1 with h1
   subst h1
   show AR _ w' _ _ ((if i=i then cp else C.cp i)*(if i=i then az else C.az i))
   rw[if_pos rfl,if_pos rfl]
   exact hO
  ·have q:=R.ar i cs' b h1 g2
   show AR _ w' _ _ ((if i=a then cp else C.cp i)*(if i=a then az else C.az i))
   rw[if_neg g1,if_neg g1]
   exact AR_mv M (q.lowL (fun r b h=>(R.mlt r b h).1)) (hw b (R.alt i b g2).2.1) q
theorem make_ok {o:Oper} {ao:AOp} {fz:Bool} {base C s0 s w e a r s2} (R:Rel base C s0 w) (hT:trOp P o fz=some ao) (hF:FR C w e a) (hk:ao.isA=true) (h:aev ao e s=some (r,s2)) :
  ∃ obj,(∃ ob u,s2=newOb s ob∧ob.low 0=true∧(r=.ref s.objs.length 0∧u=.pointer (some ⟨w.heap.size,0,none⟩)∨r=.mp s.objs.length∧u=.map (some w.heap.size))∧(execOp a.eval o).run P w=.ok (.value u) (w.alloc obj)∧∀ C',Mv s0.objs.length C w C' (w.alloc obj)→OR C' (w.alloc obj) ob w.heap.size) ∨
   (∃ cs el len cp,len≤cp∧s2=newAr s cs∧r=.os s.nxt el len∧(execOp a.eval o).run P w=.ok (.value (.slice (some ⟨w.heap.size,0,none⟩) len cp)) (w.alloc obj)∧∀ C',Mv s0.objs.length C w C' (w.alloc obj)→AR C' (w.alloc obj) cs w.heap.size (cp*el.size)):=by
 have hfr:=from_ok hT
 obtain⟨dst,op,ty,pos,after,guard⟩:=o
 cases ao<;>try (cases hk;done)
 case alloc z =>
  obtain⟨t,rfl,hz⟩:=hfr
  injection h with h
  injection h with h1 h2
  subst h1 h2
  obtain⟨zv,i,z1,z2,z3,z4,z5,z6⟩:=zero_run hz
  obtain⟨g1,g2,g3⟩:=range_new w zv.cells t
  refine⟨_,.inl ⟨.cells z,_,rfl,z5 0,.inl ⟨rfl,rfl⟩,run_v (u:=.pointer (some ⟨w.heap.size,0,none⟩)) (w':=w.alloc (.cells zv.cells t)) ?_,fun C' _=>⟨_,g1,z4 _ _,g2⟩⟩⟩
  simp[Instr.alloc,z6,newVar_run]
 case box0 x =>
  obtain⟨t,y,rfl,hx⟩:=hfr
  replace h:((x.ev e).bind fun v=>abox s v)=some (r,s2):=h
  cases q1:x.ev e with
  | none=>rw[q1] at h;cases h
  | some v =>
   rw[q1] at h
   replace h:abox s v=some (r,s2):=h
   unfold abox at h
   split at h
   case isFalse=>cases h
   rename_i hlow
   injection h with h
   injection h with h1 h2
   subst h1 h2
   have hV:=ev_ok hF hx q1
   obtain⟨g1,g2,g3⟩:=range_new w (a.eval y).cells t
   refine⟨_,.inl ⟨.cells v.cells,_,rfl,hlow,.inl ⟨rfl,rfl⟩,run_v (u:=.pointer (some ⟨w.heap.size,0,none⟩)) (w':=w.alloc (.cells (a.eval y).cells t)) ?_,fun C' M=>?_⟩⟩
   ·simp[Instr.box,newVar_run]
   ·by_cases hc:v.cells=[]
    ·rw[hc]
     exact⟨[],fun j v hj=>(by cases hj),(by unfold VL;rfl),g2⟩
    ·have hc1:=V_cells hV hc
     exact⟨_,g1,VL_mv M (VL_low (fun r b h=>(R.mlt r b h).1) hc1) hc1,g2⟩
 case mkm =>
  obtain⟨t,rfl⟩:=hfr
  injection h with h
  injection h with h1 h2
  subst h1 h2
  have hh:=heap_alloc_new w (.map #[] 0)
  refine⟨_,.inl ⟨.map [],_,rfl,rfl,.inr ⟨rfl,rfl⟩,run_v (u:=.map (some w.heap.size)) (w':=w.alloc (.map #[] 0)) ?_,fun C' _=>⟨#[],0,hh,by unfold ME;rfl⟩⟩⟩
  simp[Instr.makeMap]
  try rfl
 case bsl el z len ps =>
  obtain⟨t,qs,ee,rfl,hu,hel,hz,hps,hl1,hl2,hl3⟩:=hfr
  replace h:((evp e ps).bind fun ps=>(fills (reps z len) ps).bind fun cs=>aslot s el len cs)=some (r,s2):=h
  cases q1:evp e ps with
  | none=>rw[q1] at h;cases h
  | some vs =>
   rw[q1] at h
   replace h:((fills (reps z len) vs).bind fun cs=>aslot s el len cs)=some (r,s2):=h
   cases q2:fills (reps z len) vs with
   | none=>rw[q2] at h;cases h
   | some cs =>
    rw[q2] at h
    obtain⟨h0,rfl,rfl⟩:=aslot_some h
    obtain⟨zv,i,z1,z2,z3,z4,z5,z6⟩:=zero_run hz
    obtain⟨d,inf,hd,hinf,hs,-⟩:=elOf_spec hel
    rw[z1] at hinf
    injection hinf with hinf
    subst hinf
    have hzs:zv.cells.size=el.size:=by rw[z3,hs]
    have hVz:=reps_ok (z4 C w) len
    rw[←zeros_list (z:=zv.cells) (n:=len),hzs] at hVz
    obtain⟨us,f1,f2⟩:=fills_ok hF hps q1 hVz q2
    have husz:us.size=len*el.size:=by
     have key:∀ (l:List (Nat × Value)) (c c':Array Value),Instr.fill (fun i=>some (i*el.size,el.size)) c l=some c'→c'.size=c.size:=by
      intro l
      induction l with
      | nil=>intro c c' hc;injection hc with hc;rw[hc]
      | cons p l ih =>
       intro c c' hc
       obtain⟨i,v⟩:=p
       unfold Instr.fill at hc
       dsimp only at hc
       split at hc
       ·cases hc
       ·rename_i hn
        rw[ih _ _ hc]
        have hle:i*el.size+v.cells.size≤c.size:=by simp at hn;omega
        have:=congrArg List.length (fill_one (cs:=c) (v:=v) (off:=i*el.size) hle)
        rw[Array.length_toList] at this
        rw[this]
        simp
        omega
     rw[key _ _ _ f1]
     simp
    obtain⟨g1,g2,g3⟩:=range_new w us ee
    refine⟨_,.inr ⟨cs,el,len,len,Nat.le_refl _,rfl,rfl,run_v (w':=w.alloc (.cells us ee)) ?_,fun C' M=>⟨_,g1,VL_mv M (VL_low (fun r b h=>(R.mlt r b h).1) f2) f2,g2,fun j hj=>g3 j (by omega),h0⟩⟩⟩
    have hsz:(sizeOf ee).run P w=.ok el.size w:=by simp[sizeOf,typeInfo,z1,hs]
    simp only[Instr.buildSlice,Sem.run_bind,run_underlying hu,Result.andThen_ok,hsz,Sem.run_ite,map_parts]
    rw[if_neg (by omega)]
    simp only[Sem.run_pure,Result.andThen_ok,Sem.run_bind,z6]
    by_cases hl0:len*el.size=0
    ·rw[if_pos hl0]
     try simp only[Result.andThen_ok]
     have e0:((Array.range (len*el.size)).map (fun i=>(#[]:Array Value)[i % (#[]:Array Value).size]!))=(Array.range (len*el.size)).map (fun i=>zv.cells[i % el.size]!):=by
      rw[hl0];simp
     rw[e0,f1]
     simp[newRow]
     try rfl
    ·rw[if_neg hl0]
     try simp only[Result.andThen_ok]
     rw[hzs,f1]
     simp[newRow]
     try rfl
 case msl el z l c =>
  obtain⟨t,l',c',ee,i,rfl,hu,hel,hz,hi,hl,hc,hby,hpos⟩:=hfr
  replace h:((l.ev e).bind fun a=>(c.ev e).bind fun b=>amsl s el z a b)=some (r,s2):=h
  cases q1:l.ev e with
  | none=>rw[q1] at h;cases h
  | some lv =>
   rw[q1] at h
   replace h:((c.ev e).bind fun b=>amsl s el z lv b)=some (r,s2):=h
   cases q2:c.ev e with
   | none=>rw[q2] at h;cases h
   | some cv =>
    rw[q2] at h
    replace h:amsl s el z lv cv=some (r,s2):=h
    have hV1:=ev_ok hF hl q1
    have hV2:=ev_ok hF hc q2
    cases lv<;>try (cases h;done)
    cases cv<;>try (cases h;done)
    rename_i k1 n k2 m
    unfold amsl at h
    dsimp only at h
    split at h
    ·rename_i hcond
     obtain⟨h0,rfl,rfl⟩:=aslot_some h
     obtain⟨zv,i',z1,z2,z3,z4,z5,z6⟩:=zero_run hz
     rw[hi] at z1
     injection z1 with z1
     subst z1
     obtain⟨d,inf,hd,hinf,hs,-⟩:=elOf_spec hel
     rw[hi] at hinf
     injection hinf with hinf
     subst hinf
     have hzs:zv.cells.size=el.size:=by rw[z3,hs]
     have hVz:=fun C w=>reps_ok (z4 C w) m.toNat
     rw[←zeros_list (z:=zv.cells) (n:=m.toNat),hzs] at hVz
     obtain⟨g1,g2,g3⟩:=range_new w ((Array.range (m.toNat*el.size)).map (fun i=>zv.cells[i % el.size]!)) ee
     refine⟨_,.inr ⟨_,el,n.toNat,m.toNat,by omega,rfl,rfl,run_v (w':=w.alloc (.cells ((Array.range (m.toNat*el.size)).map (fun i=>zv.cells[i % el.size]!)) ee)) ?_,fun C' M=>⟨_,g1,hVz _ _,g2,fun j hj=>g3 j (by simpa using hj),h0⟩⟩⟩
     unfold V at hV1 hV2
     have hmost:m≤1000000:=by unfold most at hcond;exact hcond.2.2
     have hbytes:(i.bytes:Int)*m≤281474976710656:=by
      have h1:(i.bytes:Int)*m≤1000*m:=Int.mul_le_mul_of_nonneg_right (by omega) (by omega)
      omega
     have hrun:=run_make (P:=P) w t ee i zv hu hi z2 k1 k2 n m hcond.1 hcond.2.1 hbytes (by omega)
     rw[hV1,hV2,hrun]
     have hmc:madeCells zv.cells (m.toNat*i.size)=(Array.range (m.toNat*el.size)).map (fun q=>zv.cells[q % el.size]!):=by
      unfold madeCells
      rw[hs,hzs]
     rw[hmc]
    ·cases h
end Go.Am
namespace Go.Am
open Go Go.RowKit
variable {P:Program}
def preds (o:Oper):List Nat:=(o.after.toList.filter fun e=>Region.binds .any e).map (·.on)
def clos:List Oper→List Nat→List Nat
 | [],acc=>acc
 | o::os,acc=>clos os (acc++[(preds o).foldl (fun m i=>m ||| 2 ^ i ||| acc.getD i 0) 0])
theorem fold_bit {acc:List Nat} {i:Nat}:∀ (ps:List Nat) (m:Nat),(ps.foldl (fun m i=>m ||| 2 ^ i ||| acc.getD i 0) m).testBit i=true→m.testBit i=true∨∃ j∈ps,j=i∨(acc.getD j 0).testBit i=true
 | [],m,h=>.inl h
 | j::ps,m,h=>by
  rw[List.foldl_cons] at h
  rcases fold_bit ps _ h with h|⟨k,hk,h⟩
  ·rw[Nat.testBit_or,Nat.testBit_or,Bool.or_eq_true,Bool.or_eq_true] at h
   rcases h with (h|h)|h
   ·exact .inl h
   ·rw[Nat.testBit_two_pow] at h
    exact .inr ⟨j,List.mem_cons_self ..,.inl (by simpa using h)⟩
   ·exact .inr ⟨j,List.mem_cons_self ..,.inr h⟩
  ·exact .inr ⟨k,List.mem_cons_of_mem _ hk,h⟩
theorem clos_ok {L:Nat→Prop} {all:List Oper} (hL:∀ (k:Nat) o,all[k]?=some o→L k→∀ i∈preds o,L i):∀ (os:List Oper) (acc:List Nat),(∀ j:Nat,os[j]?=all[acc.length+j]?) →
  (∀ (k:Nat) o,k<acc.length→all[k]?=some o→(∀ i∈preds o,L i)→∀ i,(acc.getD k 0).testBit i=true→L i) →
  ∀ (k:Nat) o,all[k]?=some o→(∀ i∈preds o,L i)→∀ i,((clos os acc).getD k 0).testBit i=true→L i
 | [],acc,ho,ha,k,o,hk,hp,i,hi=>by
  refine ha k o ?_ hk hp i hi
  rcases Nat.lt_or_ge k acc.length with h|h
  ·exact h
  ·have:=ho (k - acc.length)
   rw[show acc.length+(k - acc.length)=k by omega,hk] at this
   cases this
 | o1::os,acc,ho,ha,k,o,hk,hp,i,hi=>by
  refine clos_ok hL os _ (fun j=>?_) (fun k' o' hk' ho' hp' i' hi'=>?_) k o hk hp i hi
  ·rw[List.length_append]
   have:=ho (j+1)
   simp only[List.getElem?_cons_succ] at this
   rw[this]
   congr 1
   simp
   omega
  ·rw[List.length_append,List.length_singleton] at hk'
   rcases Nat.lt_or_ge k' acc.length with h|h
   ·refine ha k' o' h ho' hp' i' ?_
    rw[List.getD_eq_getElem?_getD,List.getElem?_append_left h,←List.getD_eq_getElem?_getD] at hi'
    exact hi'
   ·have hke:k'=acc.length:=by omega
    subst hke
    have h0:=ho 0
    simp only[List.getElem?_cons_zero,Nat.add_zero] at h0
    rw[ho'] at h0
    injection h0 with h0
    subst h0
    rw[List.getD_eq_getElem?_getD,List.getElem?_append_right (Nat.le_refl _),Nat.sub_self] at hi'
    replace hi':((preds o1).foldl (fun m i=>m ||| 2 ^ i ||| acc.getD i 0) 0).testBit i'=true:=hi'
    rcases fold_bit _ _ hi' with h|⟨j,hj,h⟩
    ·simp at h
    ·have hLj:=hp' j hj
     rcases h with rfl|h
     ·exact hLj
     ·have hjlt:j<acc.length:=by
       rcases Nat.lt_or_ge j acc.length with h'|h'
       ·exact h'
       ·rw[List.getD_eq_getElem?_getD,List.getElem?_eq_none h'] at h
        simp at h
      have hjall:∃ oj,all[j]?=some oj:=by
       have:j<all.length:=by have:=lt_of_some ho';omega
       exact⟨_,List.getElem?_eq_getElem this⟩
      obtain⟨oj,hoj⟩:=hjall
      exact ha j oj hjlt hoj (hL j oj hoj hLj) i' h
def AX.uses (x:AX):List Nat:=x.op.us++usG x.grd
def withChk (cl:List Nat):List (Nat × AX)→List (Nat × AX)→List (Nat × AX)
 | _,[]=>[]
 | pre,(i,x)::rest=>(i,if x.op.isE then { x with chk:=(pre.filter fun p=>(p.2.op.isL||p.2.op.isA)&&!(cl.getD i 0).testBit p.1).filterMap fun p=>p.2.dst.map fun d=>(d,p.2.grd,p.2.op) } else x)::withChk cl (pre++[(i,x)]) rest
def pairOk (cl:List Nat) (p r:Nat × AX):Bool :=
 p.1 != r.1 &&
 (!(p.2.op.isE&&(r.2.op.isL||r.2.op.isA||r.2.op.isE))||(cl.getD r.1 0).testBit p.1) &&
 (match p.2.dst with|some d=>r.2.dst != some d&&(!r.2.uses.contains d||(cl.getD r.1 0).testBit p.1)|none=>true) &&
 (match r.2.dst with|some d=>!p.2.uses.contains d||((cl.getD r.1 0).testBit p.1&&!(p.2.op.isL||p.2.op.isA))|none=>true)
def pairsOk (cl:List Nat):List (Nat × AX)→Bool
 | []=>true
 | p::q=>q.all (pairOk cl p)&&pairsOk cl q
def oneOk (n:Nat) (p:Nat × AX):Bool:=p.1<n&&!p.2.op.isN&&(match p.2.dst with|some d=>!(p.2.op.isL||p.2.op.isA)||!p.2.uses.contains d|none=>!(p.2.op.isL||p.2.op.isA))
def trOrd (P:Program) (n:Nat) (ops:Array Oper) (fz:Nat→Bool):List Nat→Option (List (Nat × AX))
 | []=>some []
 | i::is =>
  match ops[i]? with
  | some o =>
   match trAX P n ops o (fz i),trOrd P n ops fz is with
   | some x,some xs=>some ((i,x)::xs)
   | _,_=>none
  | none=>none
def predsOk (ord:List Nat) (n:Nat):Nat→List Oper→Bool
 | _,[]=>true
 | k,o::os=>(preds o).all (fun j=>decide (j<n)&&decide (ord.idxOf j<ord.idxOf k))&&predsOk ord n (k+1) os
def trDraw (P:Program) (n:Nat) (ops:Array Oper) (fz:Nat→Bool) (ord:List Nat):Option (List AX) :=
 match trOrd P n ops fz ord with
 | some q =>
  if q.length=ops.size∧pairsOk (clos ops.toList []) q=true∧q.all (oneOk ops.size)=true∧predsOk ord ops.size 0 ops.toList=true∧(List.range ops.size).all (fun i=>q.any fun p=>p.1==i)=true then some ((withChk (clos ops.toList []) [] q).map (·.2)) else none
 | none=>none
theorem pairsOk_get {cl:List Nat}:∀ {q:List (Nat × AX)} {p p':Nat} {x y:Nat × AX},pairsOk cl q=true→p<p'→q[p]?=some x→q[p']?=some y→pairOk cl x y=true
 | [],p,p',x,y,h,hp,hx,hy=>by cases hx
 | z::q,0,p',x,y,h,hp,hx,hy=>by
  unfold pairsOk at h
  rw[Bool.and_eq_true] at h
  injection hx with hx
  subst hx
  cases p' with
  | zero=>omega
  | succ p'=>exact List.all_eq_true.1 h.1 y (List.mem_of_getElem? (i:=p') hy)
 | z::q,p+1,p',x,y,h,hp,hx,hy=>by
  unfold pairsOk at h
  rw[Bool.and_eq_true] at h
  cases p' with
  | zero=>omega
  | succ p'=>exact pairsOk_get (p:=p) (p':=p') h.2 (by omega) hx hy
theorem trOrd_get {n ops fz}:∀ {ord:List Nat} {q:List (Nat × AX)},trOrd P n ops fz ord=some q→∀ (p:Nat) i x,q[p]?=some (i,x)→∃ o,ops[i]?=some o∧trAX P n ops o (fz i)=some x
 | [],q,h,p,i,x,hp=>by injection h with h;subst h;cases hp
 | j::is,q,h,p,i,x,hp=>by
  unfold trOrd at h
  cases ho:ops[j]? with
  | none=>rw[ho] at h;cases h
  | some o =>
   rw[ho] at h
   dsimp only at h
   cases hx:trAX P n ops o (fz j) with
   | none=>simp only[hx] at h;cases h
   | some y =>
    cases hq:trOrd P n ops fz is with
    | none=>simp only[hx,hq] at h;cases h
    | some ys =>
     simp only[hx,hq] at h
     injection h with h
     subst h
     cases p with
     | zero=>injection hp with hp;injection hp with h1 h2;subst h1 h2;exact⟨o,ho,hx⟩
     | succ p=>exact trOrd_get hq p i x hp
theorem withChk_get {cl:List Nat}:∀ {rest pre:List (Nat × AX)} {p:Nat} {i:Nat} {x:AX},rest[p]?=some (i,x)→∃ c,(withChk cl pre rest)[p]?=some (i,{ x with chk:=c })∧(x.op.isE=false→c=x.chk) ∧
  (x.op.isE=true→∀ j y d,(j,y)∈pre++rest.take p→(y.op.isL||y.op.isA)=true→(cl.getD i 0).testBit j=false→y.dst=some d→(d,y.grd,y.op)∈c)
 | [],pre,p,i,x,h=>by cases h
 | (j,y)::rest,pre,0,i,x,h=>by
  injection h with h
  injection h with h1 h2
  subst h1 h2
  unfold withChk
  by_cases he:y.op.isE=true
  ·rw[if_pos he]
   refine⟨_,rfl,fun h=>(by rw[he] at h;cases h),fun _ k z d hk hz hb hd=>?_⟩
   rw[List.take_zero,List.append_nil] at hk
   refine List.mem_filterMap.2 ⟨(k,z),List.mem_filter.2 ⟨hk,?_⟩,?_⟩
   ·dsimp only;rw[hz,hb];rfl
   ·dsimp only;rw[hd];rfl
  ·rw[if_neg he]
   exact⟨y.chk,rfl,fun _=>rfl,fun h=>absurd h he⟩
 | (j,y)::rest,pre,p+1,i,x,h=>by
  unfold withChk
  obtain⟨c,h1,h2,h3⟩:=withChk_get (cl:=cl) (rest:=rest) (pre:=pre++[(j,y)]) (p:=p) h
  refine⟨c,h1,h2,fun he k z d hk=>h3 he k z d ?_⟩
  rw[List.take_succ_cons] at hk
  simpa using hk
theorem withChk_len {cl:List Nat}:∀ {rest pre:List (Nat × AX)},(withChk cl pre rest).length=rest.length
 | [],pre=>rfl
 | (j,y)::rest,pre=>by unfold withChk;rw[List.length_cons,List.length_cons,withChk_len]
theorem trace_ex {cal bs}:∀ {l:List AX} {e s e' s'},runOps cal bs l e s=some (e',s')→∃ (env:Nat→Env) (st:Nat→St) (val:Nat→AV),env 0=e∧st 0=s∧env l.length=e'∧st l.length=s' ∧
  ∀ (p:Nat) x,l[p]?=some x→env (p+1)=put (env p) x.dst (val p)∧((wanted x.grd (env p)=some false∧val p=.un∧st (p+1)=st p)∨(wanted x.grd (env p)=some true∧opv cal bs x.op (env p) (st p)=some (val p,st (p+1))∧stills (env p) (st p) (st (p+1)) x.chk))
 | [],e,s,e',s',h=>by
  injection h with h
  injection h with h1 h2
  subst h1 h2
  exact⟨fun _=>e,fun _=>s,fun _=>.un,rfl,rfl,rfl,rfl,fun p x hx=>by cases hx⟩
 | x::l,e,s,e',s',h=>by
  rw[runOps_cons] at h
  have go:∀ (v:AV) (s1:St),runOps cal bs l (put e x.dst v) s1=some (e',s')→((wanted x.grd e=some false∧v=.un∧s1=s)∨(wanted x.grd e=some true∧opv cal bs x.op e s=some (v,s1)∧stills e s s1 x.chk)) →
    ∃ (env:Nat→Env) (st:Nat→St) (val:Nat→AV),env 0=e∧st 0=s∧env (x::l).length=e'∧st (x::l).length=s' ∧
     ∀ (p:Nat) y,(x::l)[p]?=some y→env (p+1)=put (env p) y.dst (val p)∧((wanted y.grd (env p)=some false∧val p=.un∧st (p+1)=st p)∨(wanted y.grd (env p)=some true∧opv cal bs y.op (env p) (st p)=some (val p,st (p+1))∧stills (env p) (st p) (st (p+1)) y.chk)):=by
   intro v s1 hr hd
   obtain⟨env,st,val,h1,h2,h3,h4,h5⟩:=trace_ex hr
   refine⟨fun p=>match p with|0=>e|p+1=>env p,fun p=>match p with|0=>s|p+1=>st p,fun p=>match p with|0=>v|p+1=>val p,rfl,rfl,h3,h4,fun p y hy=>?_⟩
   cases p with
   | zero =>
    injection hy with hy
    subst hy
    dsimp only
    rw[h1,h2]
    exact⟨rfl,hd⟩
   | succ p=>exact h5 p y hy
  cases hw:wanted x.grd e with
  | none=>rw[hw] at h;cases h
  | some t =>
   rw[hw] at h
   cases t with
   | false=>exact go .un s h (.inl ⟨hw,rfl,rfl⟩)
   | true =>
    rw[nx_true] at h
    cases ho:opv cal bs x.op e s with
    | none=>rw[ho] at h;cases h
    | some q =>
     obtain⟨v,s1⟩:=q
     rw[ho] at h
     obtain⟨k1,k2⟩:=tryIf_some (show tryIf (stills e s s1 x.chk) (runOps cal bs l (put e x.dst v) s1)=some (e',s') from h)
     exact go v s1 k2 (.inr ⟨hw,ho,k1⟩)
theorem stills_get {e s s'}:∀ {l d g o},stills e s s' l→(d,g,o)∈l→wanted g e=some true→still e s s' d o
 | [],d,g,o,h,hm,hw=>by cases hm
 | (d',g',o')::l,d,g,o,h,hm,hw=>by
  unfold stills at h
  rcases List.mem_cons.1 hm with hm|hm
  ·injection hm with h1 h2
   injection h2 with h2 h3
   subst h1 h2 h3
   exact h.1 hw
  ·exact stills_get h.2 hm hw
theorem lev_ext {o e s s' v} (h:lev o e s=some v) (ho:∀ (r:Nat) x,s.objs[r]?=some x→s'.objs[r]?=some x) (ha:∀ a x,s.arr a=some x→s'.arr a=some x):lev o e s'=some v:=by
 cases o<;>try exact h
 case load el x =>
  replace h:((x.ev e).bind fun a=>aload s el a)=some v:=h
  show ((x.ev e).bind fun a=>aload s' el a)=some v
  cases q1:x.ev e with
  | none=>rw[q1] at h;cases h
  | some p =>
   rw[q1] at h
   replace h:aload s el p=some v:=h
   show aload s' el p=some v
   cases p<;>try (cases h;done)
   case ref r o =>
    unfold aload at h ⊢
    dsimp only at h ⊢
    cases hr:s.objs[r]? with
    | none=>rw[hr] at h;cases h
    | some ob=>rw[ho r ob hr];rw[hr] at h;exact h
   case aref a k =>
    unfold aload at h ⊢
    dsimp only at h ⊢
    cases hr:s.arr a with
    | none=>rw[hr] at h;cases h
    | some ob=>rw[ha a ob hr];rw[hr] at h;exact h
   case ep cs k=>exact h
 case look z m k ok =>
  replace h:((m.ev e).bind fun a=>(k.ev e).bind fun b=>alook s z ok a b)=some v:=h
  show ((m.ev e).bind fun a=>(k.ev e).bind fun b=>alook s' z ok a b)=some v
  cases q1:m.ev e with
  | none=>rw[q1] at h;cases h
  | some p =>
   rw[q1] at h
   replace h:((k.ev e).bind fun b=>alook s z ok p b)=some v:=h
   show ((k.ev e).bind fun b=>alook s' z ok p b)=some v
   cases q2:k.ev e with
   | none=>rw[q2] at h;cases h
   | some q =>
    rw[q2] at h
    replace h:alook s z ok p q=some v:=h
    show alook s' z ok p q=some v
    cases p<;>try (cases q<;>first|(cases h;done)|exact h)
    rename_i r
    cases q<;>try (cases h;done)
    unfold alook at h ⊢
    dsimp only at h ⊢
    cases hr:s.objs[r]? with
    | none=>rw[hr] at h;cases h
    | some ob=>rw[ho r ob hr];rw[hr] at h;exact h
end Go.Am
namespace Go.Am
open Go Go.RowKit
variable {P:Program}
structure Dat (P:Program) (base bs n:Nat) (cal:Nat→List AV→St→Option (AV × St)) (ops:Array Oper) (cl:List Nat) (q:List (Nat × AX)) (env:Nat→Env) (st:Nat→St) (val:Nat→AV):Prop where
 hcal:SimC P base cal
 trk:∀ (p:Nat) i x,q[p]?=some (i,x)→∃ o fz,ops[i]?=some o∧trOp P o fz=some x.op∧x.dst=o.dst∧(∀ d,o.dst=some d→d<n)∧match o.guard with
  | none=>x.grd=none
  | some (j,b)=>∃ d,(ops[j]?).bind (·.dst)=some d∧x.grd=some (d,b)
 inj:∀ (p p':Nat) i x x',q[p]?=some (i,x)→q[p']?=some (i,x')→p=p'
 sur:∀ i,i<ops.size→∃ (p:Nat) (x:AX),q[p]?=some (i,x)
 pw:∀ (p p':Nat) x y,p<p'→q[p]?=some x→q[p']?=some y→pairOk cl x y=true
 one:∀ (p:Nat) x,q[p]?=some x→oneOk ops.size x=true
 chk:∀ (p p':Nat) i x j y d,p<p'→q[p]?=some (i,x)→q[p']?=some (j,y)→(x.op.isL||x.op.isA)=true→y.op.isE=true→(cl.getD j 0).testBit i=false→x.dst=some d→(d,x.grd,x.op)∈y.chk
 cls:∀ (L:Nat→Prop),(∀ (k:Nat) o,ops[k]?=some o→L k→∀ i∈preds o,L i)→∀ (k:Nat) o,ops[k]?=some o→(∀ i∈preds o,L i)→∀ i,(cl.getD k 0).testBit i=true→L i
 pre:∃ rk:Nat→Nat,∀ (i:Nat) o,ops[i]?=some o→∀ k∈preds o,k<ops.size∧rk k<rk i
 tr:∀ (p:Nat) i x,q[p]?=some (i,x)→env (p+1)=put (env p) x.dst (val p)∧((wanted x.grd (env p)=some false∧val p=.un∧st (p+1)=st p)∨(wanted x.grd (env p)=some true∧opv cal bs x.op (env p) (st p)=some (val p,st (p+1))∧stills (env p) (st p) (st (p+1)) x.chk))
section
variable {base bs n:Nat} {cal:Nat→List AV→St→Option (AV × St)} {ops:Array Oper} {cl:List Nat} {q:List (Nat × AX)} {env:Nat→Env} {st:Nat→St} {val:Nat→AV}
theorem Dat.dst_ne (D:Dat P base bs n cal ops cl q env st val) {p p':Nat} {i j x y d} (hp:q[p]?=some (i,x)) (hp':q[p']?=some (j,y)) (hd:x.dst=some d) (hd':y.dst=some d):p=p':=by
 rcases Nat.lt_trichotomy p p' with h|h|h
 ·have:=D.pw p p' _ _ h hp hp'
  unfold pairOk at this
  simp[hd,hd'] at this
 ·exact h
 ·have:=D.pw p' p _ _ h hp' hp
  unfold pairOk at this
  simp[hd,hd'] at this
theorem Dat.env_in (D:Dat P base bs n cal ops cl q env st val) {p:Nat} {i x d} (hp:q[p]?=some (i,x)) (hd:x.dst=some d):∀ m,p<m→m≤q.length→get (env m) d=some (val p)
 | 0,h,_=>by omega
 | m+1,h,hm=>by
  obtain⟨y,hy⟩:∃ y,q[m]?=some y:=⟨_,List.getElem?_eq_getElem (by omega)⟩
  obtain⟨j,y⟩:=y
  rw[(D.tr m j y hy).1,get_put]
  by_cases hmp:m=p
  ·subst hmp
   rw[hp] at hy
   injection hy with hy
   injection hy with h1 h2
   subst h1 h2
   rw[if_pos hd]
  ·rw[if_neg (fun h'=>hmp (D.dst_ne hy hp h' hd))]
   exact Dat.env_in D hp hd m (by omega) (by omega)
theorem Dat.env_out (D:Dat P base bs n cal ops cl q env st val) {t:Nat}:∀ m,m≤q.length→(∀ (p:Nat) i x,p<m→q[p]?=some (i,x)→x.dst≠some t)→get (env m) t=get (env 0) t
 | 0,_,_=>rfl
 | m+1,hm,h=>by
  obtain⟨y,hy⟩:∃ y,q[m]?=some y:=⟨_,List.getElem?_eq_getElem (by omega)⟩
  obtain⟨j,y⟩:=y
  rw[(D.tr m j y hy).1,get_put,if_neg (h m j y (by omega) hy)]
  exact Dat.env_out D m (by omega) (fun p i x hp=>h p i x (by omega))
theorem Dat.env_la (D:Dat P base bs n cal ops cl q env st val) {p:Nat} {i x} (hp:q[p]?=some (i,x)) (hla:(x.op.isL||x.op.isA)=true) {t:Nat} (ht:t∈x.uses):∀ m,p≤m→m≤q.length→get (env m) t=get (env p) t
 | 0,h,_=>by rw[show p=0 by omega]
 | m+1,h,hm=>by
  by_cases hpm:p=m+1
  ·rw[hpm]
  ·obtain⟨y,hy⟩:∃ y,q[m]?=some y:=⟨_,List.getElem?_eq_getElem (by omega)⟩
   obtain⟨j,y⟩:=y
   rw[(D.tr m j y hy).1,get_put,if_neg,Dat.env_la D hp hla ht m (by omega) (by omega)]
   intro hd
   by_cases hmp:p=m
   ·subst hmp
    rw[hp] at hy
    injection hy with hy
    injection hy with h1 h2
    subst h1 h2
    have:=D.one p _ hp
    unfold oneOk at this
    simp[hd,hla,ht] at this
   ·have:=D.pw p m _ _ (by omega) hp hy
    unfold pairOk at this
    simp[hd,hla,ht] at this
theorem ext_of {o e bs s v s'} (hE:o.isE=false) (hN:o.isN=false) (h:opv cal bs o e s=some (v,s')) :
  (o.isA=false→s'=s∧lev o e s=some v)∧(o.isA=true→aev o e s=some (v,s')):=by
 cases o<;>first|(cases hE;done)|(cases hN;done)|skip
 case alloc z=>exact⟨fun hA=>(by cases hA),fun _=>h⟩
 case mkm=>exact⟨fun hA=>(by cases hA),fun _=>h⟩
 case box0=>exact⟨fun hA=>(by cases hA),fun _=>h⟩
 case bsl=>exact⟨fun hA=>(by cases hA),fun _=>h⟩
 case msl=>exact⟨fun hA=>(by cases hA),fun _=>h⟩
 all_goals
  refine⟨fun _=>?_,fun hA=>by cases hA⟩
  replace h:(lev _ e s).bind (fun v=>some (v,s))=some (v,s'):=h
  cases hl:lev _ e s with
  | none=>rw[hl] at h;cases h
  | some u =>
   rw[hl] at h
   injection h with h
   injection h with h1 h2
   subst h1
   exact⟨h2.symm,rfl⟩
theorem aev_new {o e s v s' O fz} (hT:trOp P O fz=some o) (hA:o.isA=true) (h:aev o e s=some (v,s')):(∃ ob,s'=newOb s ob∧ob.low 0=true∧(v=.ref s.objs.length 0∨v=.mp s.objs.length))∨∃ cs el len,s'=newAr s cs∧v=.os s.nxt el len:=by
 have hfr:=from_ok hT
 cases o<;>try (cases hA;done)
 case alloc z =>
  obtain⟨t,-,hz⟩:=hfr
  obtain⟨zv,i,-,-,-,-,z5,-⟩:=zero_run hz
  injection h with h
  injection h with h1 h2
  subst h1 h2
  exact .inl ⟨_,rfl,z5 0,.inl rfl⟩
 case mkm =>
  injection h with h
  injection h with h1 h2
  subst h1 h2
  exact .inl ⟨_,rfl,rfl,.inr rfl⟩
 case box0 x =>
  replace h:((x.ev e).bind fun v=>abox s v)=some (v,s'):=h
  cases q1:x.ev e with
  | none=>rw[q1] at h;cases h
  | some u =>
   rw[q1] at h
   replace h:abox s u=some (v,s'):=h
   unfold abox at h
   split at h
   case isFalse=>cases h
   rename_i hlow
   injection h with h
   injection h with h1 h2
   subst h1 h2
   exact .inl ⟨_,rfl,hlow,.inl rfl⟩
 case bsl el z len ps =>
  replace h:((evp e ps).bind fun ps=>(fills (reps z len) ps).bind fun cs=>aslot s el len cs)=some (v,s'):=h
  cases q1:evp e ps with
  | none=>rw[q1] at h;cases h
  | some vs =>
   rw[q1] at h
   replace h:((fills (reps z len) vs).bind fun cs=>aslot s el len cs)=some (v,s'):=h
   cases q2:fills (reps z len) vs with
   | none=>rw[q2] at h;cases h
   | some cs =>
    rw[q2] at h
    obtain⟨h0,rfl,rfl⟩:=aslot_some h
    exact .inr ⟨cs,el,len,rfl,rfl⟩
 case msl el z l c =>
  replace h:((l.ev e).bind fun a=>(c.ev e).bind fun b=>amsl s el z a b)=some (v,s'):=h
  cases q1:l.ev e with
  | none=>rw[q1] at h;cases h
  | some lv =>
   rw[q1] at h
   replace h:((c.ev e).bind fun b=>amsl s el z lv b)=some (v,s'):=h
   cases q2:c.ev e with
   | none=>rw[q2] at h;cases h
   | some cv =>
    rw[q2] at h
    replace h:amsl s el z lv cv=some (v,s'):=h
    cases lv<;>try (cases h;done)
    cases cv<;>try (cases h;done)
    unfold amsl at h
    dsimp only at h
    split at h
    ·obtain⟨h0,rfl,rfl⟩:=aslot_some h
     exact .inr ⟨_,el,_,rfl,rfl⟩
    ·cases h
def Unm (C:Cx):AV→Prop
 | .ref r _=>C.m r=none
 | .mp r=>C.m r=none
 | .os a _ _=>C.ma a=none
 | _=>True
theorem Dat.quiet (D:Dat P base bs n cal ops cl q env st val) {p:Nat} {i x} (hp:q[p]?=some (i,x)) (hE:x.op.isE=false) :
  (st (p+1)=st p∧(wanted x.grd (env p)=some true→x.op.isA=false∧lev x.op (env p) (st p)=some (val p))) ∨
  (wanted x.grd (env p)=some true∧x.op.isA=true∧aev x.op (env p) (st p)=some (val p,st (p+1)) ∧
   ((∃ ob,st (p+1)=newOb (st p) ob∧ob.low 0=true∧(val p=.ref (st p).objs.length 0∨val p=.mp (st p).objs.length))∨∃ cs el len,st (p+1)=newAr (st p) cs∧val p=.os (st p).nxt el len)):=by
 obtain⟨-,h⟩:=D.tr p i x hp
 have hN:x.op.isN=false:=by
  have:=D.one p _ hp
  unfold oneOk at this
  simp at this
  exact this.1.2
 rcases h with ⟨h1,h2,h3⟩|⟨h1,h2,h3⟩
 ·exact .inl ⟨h3,fun h=>by rw[h1] at h;cases h⟩
 ·obtain⟨k1,k2⟩:=ext_of hE hN h2
  cases hA:x.op.isA with
  | false =>
   obtain⟨g1,g2⟩:=k1 hA
   exact .inl ⟨g1,fun _=>⟨rfl,g2⟩⟩
  | true =>
   obtain⟨o,fz,-,hT,-⟩:=D.trk p i x hp
   exact .inr ⟨h1,rfl,k2 hA,aev_new hT hA (k2 hA)⟩
theorem Dat.ext (D:Dat P base bs n cal ops cl q env st val) {C:Cx} {w:World} {m:Nat} (hb:bs≤(st m).objs.length) (R:Rel base C (st m) w):∀ m2,m≤m2→m2≤q.length→(∀ (p:Nat) i x,m≤p→p<m2→q[p]?=some (i,x)→x.op.isE=false) →
  Stp base bs C (st m) w C (st m2) w∧(∀ p p',m≤p→p≤p'→p'≤m2→(st p).objs.length≤(st p').objs.length∧(st p).nxt≤(st p').nxt)∧∀ p,m≤p→p≤m2→∀ a,(st p).nxt≤a→(st p).arr a=none
 | 0,h,_,_=>by
  have:m=0:=by omega
  subst this
  exact⟨Stp.same R hb,fun p p' h1 h2 h3=>(by rw[show p=0 by omega,show p'=0 by omega];exact⟨Nat.le_refl _,Nat.le_refl _⟩),fun p h1 h2=>(by rw[show p=0 by omega];exact R.nx)⟩
 | m2+1,h,hl,hE=>by
  by_cases hm:m=m2+1
  ·subst hm
   exact⟨Stp.same R hb,fun p p' h1 h2 h3=>(by rw[show p=p' by omega];exact⟨Nat.le_refl _,Nat.le_refl _⟩),fun p h1 h2=>(by rw[show p=m2+1 by omega];exact R.nx)⟩
  ·obtain⟨S,M,X⟩:=Dat.ext D hb R m2 (by omega) (by omega) (fun p i x h1 h2=>hE p i x h1 (by omega))
   obtain⟨y,hy⟩:∃ y,q[m2]?=some y:=⟨_,List.getElem?_eq_getElem (by omega)⟩
   obtain⟨j,y⟩:=y
   have hq:=D.quiet hy (hE m2 j y (by omega) (by omega) hy)
   have hstep:Stp base bs C (st m2) w C (st (m2+1)) w:=by
    rcases hq with ⟨h1,-⟩|⟨-,-,-,⟨ob,h1,h2,-⟩|⟨cs,el,len,h1,-⟩⟩
    ·rw[h1];exact Stp.same S.rel (Nat.le_trans hb S.ol)
    ·rw[h1]
     exact⟨S.rel.extBox (Ob.low_le (Nat.zero_le _) h2),Mv.refl _ _ _,Below.refl _ _,by show _≤((st m2).objs++[ob]).length;simp,fun _ _ h=>h,fun _ _ h=>h,Nat.le_refl _,fun k hk hc=>hc.push (by have:=S.ol;omega)⟩
    ·rw[h1]
     exact⟨S.rel.extArray,Mv.refl _ _ _,Below.refl _ _,Nat.le_refl _,fun _ _ h=>h,fun _ _ h=>h,Nat.le_succ _,fun k hk hc=>hc⟩
   refine⟨S.trans hstep,fun p p' h1 h2 h3=>?_,fun p h1 h2=>(by
    by_cases hp:p=m2+1
    ·subst hp;exact hstep.rel.nx
    ·exact X p h1 (by omega))⟩
   by_cases hp':p'=m2+1
   ·subst hp'
    by_cases hp:p=m2+1
    ·subst hp;exact⟨Nat.le_refl _,Nat.le_refl _⟩
    ·obtain⟨g1,g2⟩:=M p m2 h1 (by omega) (Nat.le_refl _)
     exact⟨Nat.le_trans g1 hstep.ol,Nat.le_trans g2 hstep.nx⟩
   ·exact M p p' h1 h2 (by omega)
theorem first_E (q:List (Nat × AX)):∀ (d m:Nat),m+d=q.length→∃ m2,m≤m2∧m2≤q.length∧(m2=q.length∨∃ i x,q[m2]?=some (i,x)∧x.op.isE=true)∧∀ (p:Nat) i x,m≤p→p<m2→q[p]?=some (i,x)→x.op.isE=false
 | 0,m,h=>⟨m,Nat.le_refl _,by omega,.inl (by omega),fun p i x h1 h2=>by omega⟩
 | d+1,m,h=>by
  obtain⟨y,hy⟩:∃ y,q[m]?=some y:=⟨_,List.getElem?_eq_getElem (by omega)⟩
  obtain⟨j,y⟩:=y
  cases hE:y.op.isE with
  | true=>exact⟨m,Nat.le_refl _,by omega,.inr ⟨j,y,hy,hE⟩,fun p i x h1 h2=>by omega⟩
  | false =>
   obtain⟨m2,h1,h2,h3,h4⟩:=first_E q d (m+1) (by omega)
   refine⟨m2,by omega,h2,h3,fun p i x k1 k2 hp=>?_⟩
   by_cases hpm:p=m
   ·subst hpm
    rw[hy] at hp
    injection hp with hp
    injection hp with e1 e2
    subst e1 e2
    exact hE
   ·exact h4 p i x (by omega) k2 hp
def Pres (s s':St):AV→Prop
 | .ref r _=>∃ ob,s'.objs[r]?=some ob∧s.objs[r]?=some ob
 | .mp r=>∃ ob,s'.objs[r]?=some ob∧s.objs[r]?=some ob
 | .os a _ _=>∃ cs,s'.arr a=some cs∧s.arr a=some cs
 | _=>True
theorem Pres.mono {s s' t v} (h:Pres s s' v) (ho:∀ (r:Nat) x,s.objs[r]?=some x→t.objs[r]?=some x) (ha:∀ a x,s.arr a=some x→t.arr a=some x):Pres t s' v:=by
 cases v<;>first|exact trivial|skip
 case ref=>obtain⟨ob,h1,h2⟩:=h;exact⟨ob,h1,ho _ _ h2⟩
 case mp=>obtain⟨ob,h1,h2⟩:=h;exact⟨ob,h1,ho _ _ h2⟩
 case os=>obtain⟨ob,h1,h2⟩:=h;exact⟨ob,h1,ha _ _ h2⟩
theorem Pres.still {s s' t v} (h:Pres s s' v) (hs:stillOb s t v):Pres t s' v:=by
 cases v<;>first|exact trivial|skip
 case ref=>obtain⟨ob,h1,h2⟩:=h;exact⟨ob,h1,(show t.objs[_]?=_ from hs).trans h2⟩
 case mp=>obtain⟨ob,h1,h2⟩:=h;exact⟨ob,h1,(show t.objs[_]?=_ from hs).trans h2⟩
 case os=>obtain⟨ob,h1,h2⟩:=h;exact⟨ob,h1,(show t.arr _=_ from hs).trans h2⟩
theorem newOb_old {s ob}:(∀ (r:Nat) x,s.objs[r]?=some x→(newOb s ob).objs[r]?=some x)∧∀ a x,s.arr a=some x→(newOb s ob).arr a=some x :=
 ⟨fun r x h=>by show (s.objs++[ob])[r]?=_;rw[List.getElem?_append_left (lt_of_some h)];exact h,fun _ _ h=>h⟩
theorem newAr_old {s cs} (hn:∀ a,s.nxt≤a→s.arr a=none):(∀ (r:Nat) x,s.objs[r]?=some x→(newAr s cs).objs[r]?=some x)∧∀ a x,s.arr a=some x→(newAr s cs).arr a=some x :=
 ⟨fun _ _ h=>h,fun a x h=>by
  show upd s.arr s.nxt (some cs) a=_
  rw[upd_ne (fun e=>by subst e;rw[hn _ (Nat.le_refl _)] at h;cases h)];exact h⟩
theorem Dat.la (D:Dat P base bs n cal ops cl q env st val) {L:Nat→Prop} (hL:∀ (k:Nat) o,ops[k]?=some o→L k→∀ i∈preds o,L i) {p:Nat} {i x} (hp:q[p]?=some (i,x)) (hla:(x.op.isL||x.op.isA)=true) (hw:wanted x.grd (env p)=some true) (hnl:¬ L i)
  {M:Nat} (hM:M≤q.length) (hEL:∀ (p':Nat) j y,p'<M→q[p']?=some (j,y)→y.op.isE=true→L j) (hnx:∀ m,m≤M→∀ a,(st m).nxt≤a→(st m).arr a=none) :
  ∀ m,p<m→m≤M→(x.op.isA=false→lev x.op (env p) (st m)=some (val p))∧(x.op.isA=true→Pres (st m) (st (p+1)) (val p))
 | 0,h,_=>by omega
 | m+1,h,hm=>by
  have hE0:x.op.isE=false:=by
   cases hx:x.op<;>rw[hx] at hla<;>first|rfl|cases hla
  by_cases hpm:p=m
  ·subst hpm
   rcases D.quiet hp hE0 with ⟨h1,h2⟩|⟨-,h2,-,h3⟩
   ·obtain⟨h3,h4⟩:=h2 hw
    exact⟨fun _=>by rw[h1];exact h4,fun hA=>by rw[h3] at hA;cases hA⟩
   ·refine⟨fun hA=>(by rw[h2] at hA;cases hA),fun _=>?_⟩
    rcases h3 with ⟨ob,h3,-,h4|h4⟩|⟨cs,el,len,h3,h4⟩
    ·rw[h4,h3];exact⟨ob,by show ((st p).objs++[ob])[_]?=_;simp,by show ((st p).objs++[ob])[_]?=_;simp⟩
    ·rw[h4,h3];exact⟨ob,by show ((st p).objs++[ob])[_]?=_;simp,by show ((st p).objs++[ob])[_]?=_;simp⟩
    ·rw[h4,h3];exact⟨cs,upd_eq,upd_eq⟩
  ·obtain⟨ih1,ih2⟩:=Dat.la D hL hp hla hw hnl hM hEL hnx m (by omega) (by omega)
   obtain⟨y,hy⟩:∃ y,q[m]?=some y:=⟨_,List.getElem?_eq_getElem (by omega)⟩
   obtain⟨j,y⟩:=y
   cases hyE:y.op.isE with
   | false =>
    rcases D.quiet hy hyE with ⟨h1,-⟩|⟨-,-,-,⟨ob,h1,-⟩|⟨cs,el,len,h1,-⟩⟩
    ·rw[h1];exact⟨ih1,ih2⟩
    ·rw[h1]
     obtain⟨k1,k2⟩:=newOb_old (s:=st m) (ob:=ob)
     exact⟨fun hA=>lev_ext (ih1 hA) k1 k2,fun hA=>(ih2 hA).mono k1 k2⟩
    ·rw[h1]
     obtain⟨k1,k2⟩:=newAr_old (s:=st m) (cs:=cs) (hnx m (by omega))
     exact⟨fun hA=>lev_ext (ih1 hA) k1 k2,fun hA=>(ih2 hA).mono k1 k2⟩
   | true =>
    have hLj:=hEL m j y (by omega) hy hyE
    obtain⟨oj,fz,hoj,-⟩:=D.trk m j y hy
    have hbit:(cl.getD j 0).testBit i=false:=by
     cases hb:(cl.getD j 0).testBit i with
     | false=>rfl
     | true=>exact absurd (D.cls L hL j oj hoj (hL j oj hoj hLj) i hb) hnl
    obtain⟨d,hd⟩:∃ d,x.dst=some d:=by
     have:=D.one p _ hp
     unfold oneOk at this
     cases hd:x.dst with
     | none=>simp[hd,hla] at this
     | some d=>exact⟨d,rfl⟩
    rcases (D.tr m j y hy).2 with ⟨-,-,h3⟩|⟨-,-,h3⟩
    ·rw[h3];exact⟨ih1,ih2⟩
    ·have hmem:=D.chk p m i x j y d (by omega) hp hy hla hyE hbit hd
     have hwm:wanted x.grd (env m)=some true:=by
      rw[wanted_cg (fun t ht=>D.env_la hp hla (List.mem_append_right _ ht) m (by omega) (by omega))]
      exact hw
     have hst:=stills_get h3 hmem hwm
     have hg:=D.env_in hp hd m (by omega) (by omega)
     have hcg:=(opv_cg (cal:=cal) (bs:=bs) (s:=st (m+1)) (o:=x.op) (e:=env m) (e':=env p) (fun t ht=>D.env_la hp hla (List.mem_append_left _ ht) m (by omega) (by omega))).2.1
     refine⟨fun hA=>?_,fun hA=>(ih2 hA).still ?_⟩
     ·rw[←hcg,←hg]
      cases hx:x.op<;>rw[hx] at hla hA hst<;>first|(cases hA;done)|(cases hla;done)|exact hst
     ·cases hx:x.op<;>rw[hx] at hA hst<;>try (cases hA;done)
      all_goals
       obtain⟨v,g1,g2⟩:=hst
       rw[hg] at g1
       injection g1 with g1
       subst g1
       exact g2
structure JJ (P:Program) (base bs n:Nat) (ops:Array Oper) (q:List (Nat × AX)) (env:Nat→Env) (st:Nat→St) (val:Nat→AV) (C0:Cx) (w0:World) (a0:Act) (L:Nat→Prop) (a:Act) (w:World) (qn:Nat) (C:Cx):Prop where
 closed:∀ (k:Nat) o,ops[k]?=some o→L k→∀ i∈preds o,L i
 sz:a.tmps.size=n
 de:a.defers=a0.defers
 qle:qn≤q.length
 nxt:qn=q.length∨∃ i x,q[qn]?=some (i,x)∧x.op.isE=true∧¬ L i
 bef:∀ (p:Nat) i x,p<qn→q[p]?=some (i,x)→x.op.isE=true→L i
 mo:∀ p p',p≤p'→p'≤qn→(st p).objs.length≤(st p').objs.length∧(st p).nxt≤(st p').nxt
 nx:∀ p,p≤qn→∀ a,(st p).nxt≤a→(st p).arr a=none
 stp:Stp base bs C0 (st 0) w0 C (st qn) w
 f1:∀ (p:Nat) i x d,q[p]?=some (i,x)→L i→x.dst=some d→V C w (val p) (a.tmps.getD d undef)
 f2:∀ t y,(∀ (p:Nat) i x,q[p]?=some (i,x)→L i→x.dst≠some t)→get (env 0) t=some y→V C w y (a.tmps.getD t undef)
 un:∀ (p:Nat) i x,p<qn→q[p]?=some (i,x)→x.op.isA=true→¬ L i→wanted x.grd (env p)=some true→Unm C (val p)
section
variable {C0:Cx} {w0:World} {a0:Act}
theorem JJ.sees (D:Dat P base bs n cal ops cl q env st val) {L a w qn C} (J:JJ P base bs n ops q env st val C0 w0 a0 L a w qn C) {p:Nat} {i x o} (hp:q[p]?=some (i,x)) (ho:ops[i]?=some o) (hpr:∀ k∈preds o,L k) (hnl:¬ L i) :
  FR C w (keep x.uses (env p)) a∧∀ t∈x.uses,get (keep x.uses (env p)) t=get (env p) t:=by
 have hple:p≤q.length:=Nat.le_of_lt (lt_of_some hp)
 refine⟨fun t y hy=>?_,fun t ht=>by rw[get_keep,if_pos ht]⟩
 rw[get_keep] at hy
 split at hy
 case isFalse=>cases hy
 rename_i ht
 by_cases hex:∃ (p':Nat) (j:Nat) (y':AX),p'<p∧q[p']?=some (j,y')∧y'.dst=some t
 ·obtain⟨p',j,y',h1,h2,h3⟩:=hex
  have hpk:=D.pw p' p _ _ h1 h2 hp
  unfold pairOk at hpk
  simp only[h3,Bool.and_eq_true] at hpk
  have hb:(cl.getD i 0).testBit j=true:=by
   have:=hpk.1.2.2
   simpa[ht] using this
  have hLj:=D.cls L J.closed i o ho hpr j hb
  rw[D.env_in h2 h3 p h1 hple] at hy
  injection hy with hy
  subst hy
  exact J.f1 p' j y' t h2 hLj h3
 ·rw[D.env_out p hple (fun p' j y' h1 h2 h3=>hex ⟨p',j,y',h1,h2,h3⟩)] at hy
  refine J.f2 t y (fun p' j y' h2 hLj h3=>?_) hy
  by_cases hpp:p'<p
  ·exact hex ⟨p',j,y',hpp,h2,h3⟩
  ·by_cases hpe:p'=p
   ·subst hpe
    rw[hp] at h2
    injection h2 with h2
    injection h2 with e1 e2
    subst e1 e2
    exact hnl hLj
   ·have hpk:=D.pw p p' _ _ (by omega) hp h2
    unfold pairOk at hpk
    simp only[h3,Bool.and_eq_true] at hpk
    have hb:(cl.getD j 0).testBit i=true:=by
     have:=hpk.2
     simp[ht] at this
     exact this.1
    obtain⟨oj,fz,hoj,-⟩:=D.trk p' j y' h2
    exact hnl (D.cls L J.closed j oj hoj (J.closed j oj hoj hLj) i hb)
theorem JJ.go (D:Dat P base bs n cal ops cl q env st val) {L a w qn C} (J:JJ P base bs n ops q env st val C0 w0 a0 L a w qn C) {p:Nat} {i x o} (hp:q[p]?=some (i,x)) (ho:ops[i]?=some o) (hpr:∀ k∈preds o,L k) (hnl:¬ L i)
  {C2 w2 u qn2} (hV:V C2 w2 (val p) u) (hM:Mv (st qn).objs.length C w C2 w2) (hS:Stp base bs C0 (st 0) w0 C2 (st qn2) w2)
  (h1:qn2≤q.length) (h2:qn2=q.length∨∃ i' x',q[qn2]?=some (i',x')∧x'.op.isE=true∧¬ (L i'∨i'=i)) (h3:∀ (p:Nat) i' x',p<qn2→q[p]?=some (i',x')→x'.op.isE=true→L i'∨i'=i)
  (h4:∀ p p',p≤p'→p'≤qn2→(st p).objs.length≤(st p').objs.length∧(st p).nxt≤(st p').nxt) (h5:∀ p,p≤qn2→∀ a,(st p).nxt≤a→(st p).arr a=none)
  (h6:∀ (p:Nat) i' x',p<qn2→q[p]?=some (i',x')→x'.op.isA=true→¬ (L i'∨i'=i)→wanted x'.grd (env p)=some true→Unm C2 (val p)) :
  JJ P base bs n ops q env st val C0 w0 a0 (fun k=>L k∨k=i) (a.put o.dst u) w2 qn2 C2:=by
 obtain⟨o',fz,ho',hT,hdst,hdn,-⟩:=D.trk p i x hp
 rw[ho] at ho'
 injection ho' with ho'
 subst ho'
 have hin:∀ d,o.dst=some d→d<a.tmps.size:=fun d hd=>by rw[J.sz];exact hdn d hd
 refine⟨fun k ok hk hLk j hj=>?_,put_size.1.trans J.sz,put_size.2.trans J.de,h1,h2,h3,h4,h5,hS,fun p' i' x' d hp' hL' hd=>?_,fun t y ht hy=>?_,h6⟩
 ·rcases hLk with hLk|rfl
  ·exact .inl (J.closed k ok hk hLk j hj)
  ·rw[ho] at hk
   injection hk with hk
   subst hk
   exact .inl (hpr j hj)
 ·rw[put_tmps hin]
  by_cases hpp:p'=p
  ·subst hpp
   rw[hp] at hp'
   injection hp' with hp'
   injection hp' with e1 e2
   subst e1 e2
   rw[if_pos (by rw[←hdst];exact hd)]
   exact hV
  ·rw[if_neg (fun h=>hpp (D.dst_ne hp' hp hd (hdst.trans h)))]
   have hLi:L i':=by
    rcases hL' with h|rfl
    ·exact h
    ·exact absurd (D.inj p' p _ _ _ hp' hp) hpp
   have hv:=J.f1 p' i' x' d hp' hLi hd
   exact V_mv hM (J.stp.rel.low hv) hv
 ·rw[put_tmps hin,if_neg (fun h=>ht p i x hp (.inr rfl) (hdst.trans h))]
  have hv:=J.f2 t y (fun p' i' x' hp' hL'=>ht p' i' x' hp' (.inl hL')) hy
  exact V_mv hM (J.stp.rel.low hv) hv
end
end
end Go.Am
namespace Go.Am
open Go Go.RowKit
variable {P:Program}
section
variable {base bs n:Nat} {cal:Nat→List AV→St→Option (AV × St)} {ops:Array Oper} {cl:List Nat} {q:List (Nat × AX)} {env:Nat→Env} {st:Nat→St} {val:Nat→AV} {C0:Cx} {w0:World} {a0:Act}
theorem pair_E {cl:List Nat} {p r:Nat × AX} (h:pairOk cl p r=true) (hE:p.2.op.isE=true) (hr:(r.2.op.isL||r.2.op.isA||r.2.op.isE)=true):(cl.getD r.1 0).testBit p.1=true:=by
 unfold pairOk at h
 simp only[Bool.and_eq_true] at h
 have:=h.1.1.2
 rw[hE,hr] at this
 simpa using this
theorem lev_pure {o e s s'} (h:o.isL=false):lev o e s=lev o e s':=by
 cases o<;>first|rfl|cases h
theorem JJ.step (D:Dat P base bs n cal ops cl q env st val) (hbs:bs≤(st 0).objs.length) {L a w qn C} (J:JJ P base bs n ops q env st val C0 w0 a0 L a w qn C) {p:Nat} {i x o} (hp:q[p]?=some (i,x)) (ho:ops[i]?=some o) (hpr:∀ k∈preds o,L k) (hnl:¬ L i)
  {Q:Exit→Act→World→Prop} {K:Act→World→Prop} (hK:∀ a' w' qn' C',JJ P base bs n ops q env st val C0 w0 a0 (fun k=>L k∨k=i) a' w' qn' C'→K a' w'):wpOp P ops Q i K a w:=by
 obtain⟨o',fz,ho',hT,hdst,hdn,hg⟩:=D.trk p i x hp
 rw[ho] at ho'
 injection ho' with ho'
 subst ho'
 obtain⟨hFk,hgk⟩:=J.sees D hp ho hpr hnl
 have hcg:=fun s=>opv_cg (cal:=cal) (bs:=bs) (s:=s) (o:=x.op) (e:=keep x.uses (env p)) (e':=env p) (fun t ht=>hgk t (List.mem_append_left _ ht))
 have hcw:wanted x.grd (keep x.uses (env p))=wanted x.grd (env p):=wanted_cg (fun t ht=>hgk t (List.mem_append_right _ ht))
 have hbq:bs≤(st qn).objs.length:=Nat.le_trans hbs J.stp.ol
 have hplt:=lt_of_some hp
 have adv:∀ {C2 w2},p=qn→x.op.isE=true→Rel base C2 (st (p+1)) w2→(st p).objs.length≤(st (p+1)).objs.length→(st p).nxt≤(st (p+1)).nxt→(∀ r,r<(st p).objs.length→C.m r=none→C2.m r=none)→(∀ r,r<(st p).nxt→C.ma r=none→C2.ma r=none) →
   ∃ qn2,Stp base bs C2 (st (p+1)) w2 C2 (st qn2) w2∧qn2≤q.length∧(qn2=q.length∨∃ i' x',q[qn2]?=some (i',x')∧x'.op.isE=true∧¬ (L i'∨i'=i))∧(∀ (p:Nat) i' x',p<qn2→q[p]?=some (i',x')→x'.op.isE=true→L i'∨i'=i) ∧
    (∀ p p',p≤p'→p'≤qn2→(st p).objs.length≤(st p').objs.length∧(st p).nxt≤(st p').nxt)∧(∀ p,p≤qn2→∀ a,(st p).nxt≤a→(st p).arr a=none) ∧
    (∀ (p:Nat) i' x',p<qn2→q[p]?=some (i',x')→x'.op.isA=true→¬ (L i'∨i'=i)→wanted x'.grd (env p)=some true→Unm C2 (val p)):=by
  intro C2 w2 hpq hE R2 hol hnx hum hua
  subst hpq
  obtain⟨qn2,g1,g2,g3,g4⟩:=first_E q (q.length - (p+1)) (p+1) (by omega)
  obtain⟨S,M,X⟩:=D.ext (C:=C2) (w:=w2) (m:=p+1) (by omega) R2 qn2 g1 g2 g4
  refine⟨qn2,S,g2,?_,fun p' i' x' h1 h2 h3=>?_,fun p1 p2 h1 h2=>?_,fun p' h1=>?_,fun p' i' x' h1 h2 h3 h4 h5=>?_⟩
  ·rcases g3 with g3|⟨i',x',k1,k2⟩
   ·exact .inl g3
   ·refine .inr ⟨i',x',k1,k2,fun h=>?_⟩
    rcases h with h|h
    ·obtain⟨oj,fz',hoj,-⟩:=D.trk qn2 i' x' k1
     have hb:=pair_E (D.pw p qn2 _ _ (by omega) hp k1) hE (by dsimp only;rw[k2];simp)
     exact hnl (D.cls L J.closed i' oj hoj (J.closed i' oj hoj h) i hb)
    ·subst h
     have:=D.inj qn2 p _ _ _ k1 hp
     omega
  ·by_cases hpp:p'<p
   ·exact .inl (J.bef p' i' x' hpp h2 h3)
   ·by_cases hpe:p'=p
    ·subst hpe
     rw[hp] at h2
     injection h2 with h2
     injection h2 with e1 e2
     exact .inr e1.symm
    ·have:=g4 p' i' x' (by omega) h1 h2
     rw[h3] at this
     cases this
  ·by_cases h3:p2≤p
   ·exact J.mo p1 p2 h1 h3
   ·by_cases h4:p+1≤p1
    ·exact M p1 p2 h4 h1 h2
    ·obtain⟨k1,k2⟩:=J.mo p1 p (by omega) (Nat.le_refl _)
     obtain⟨k3,k4⟩:=M (p+1) p2 (Nat.le_refl _) (by omega) h2
     exact⟨by omega,by omega⟩
  ·by_cases h3:p'≤p
   ·exact J.nx p' h3
   ·exact X p' (by omega) h1
  ·by_cases hpp:p'<p
   ·have hu:=J.un p' i' x' hpp h2 h3 (fun h=>h4 (.inl h)) h5
    have hlt:=J.mo (p'+1) p (by omega) (Nat.le_refl _)
    have hE':x'.op.isE=false:=by cases hx:x'.op<;>rw[hx] at h3<;>first|rfl|cases h3
    rcases D.quiet h2 hE' with ⟨-,k2⟩|⟨-,-,-,⟨ob,k1,-,k2|k2⟩|⟨cs,el,len,k1,k2⟩⟩
    ·rw[(k2 h5).1] at h3;cases h3
    ·rw[k2] at hu ⊢
     have e:(st (p'+1)).objs.length=(st p').objs.length+1:=by rw[k1];show ((st p').objs++[ob]).length=_;simp
     exact hum _ (by omega) hu
    ·rw[k2] at hu ⊢
     have e:(st (p'+1)).objs.length=(st p').objs.length+1:=by rw[k1];show ((st p').objs++[ob]).length=_;simp
     exact hum _ (by omega) hu
    ·rw[k2] at hu ⊢
     have e:(st (p'+1)).nxt=(st p').nxt+1:=by rw[k1];rfl
     exact hua _ (by omega) hu
   ·by_cases hpe:p'=p
    ·subst hpe
     rw[hp] at h2
     injection h2 with h2
     injection h2 with e1 e2
     exact absurd (.inr e1.symm) h4
    ·have hlt:=(M (p+1) p' (Nat.le_refl _) (by omega) (by omega))
     have hE':x'.op.isE=false:=by cases hx:x'.op<;>rw[hx] at h3<;>first|rfl|cases h3
     rcases D.quiet h2 hE' with ⟨-,k2⟩|⟨-,-,-,⟨ob,k1,-,k2|k2⟩|⟨cs,el,len,k1,k2⟩⟩
     ·rw[(k2 h5).1] at h3;cases h3
     ·rw[k2]
      show C2.m _=none
      cases hm:C2.m (st p').objs.length with
      | none=>rfl
      | some b=>have:=(R2.mlt _ b hm).1;omega
     ·rw[k2]
      show C2.m _=none
      cases hm:C2.m (st p').objs.length with
      | none=>rfl
      | some b=>have:=(R2.mlt _ b hm).1;omega
     ·rw[k2]
      show C2.ma _=none
      cases hm:C2.ma (st p').nxt with
      | none=>rfl
      | some b=>have:=(R2.alt _ b hm).1;omega
 have stay:∀ {C2:Cx} {w2:World} {u:Value},x.op.isE=false→V C2 w2 (val p) u→Mv (st qn).objs.length C w C2 w2→Stp base bs C0 (st 0) w0 C2 (st qn) w2 →
   (∀ (p':Nat) i' x',p'<qn→q[p']?=some (i',x')→x'.op.isA=true→¬ (L i'∨i'=i)→wanted x'.grd (env p')=some true→Unm C2 (val p'))→K (a.put o.dst u) w2:=by
  intro C2 w2 u hE hV hM hS hun
  refine hK _ _ qn C2 (J.go D hp ho hpr hnl hV hM hS J.qle ?_ (fun p' i' x' h1 h2 h3=>.inl (J.bef p' i' x' h1 h2 h3)) J.mo J.nx hun)
  rcases J.nxt with h|⟨i',x',k1,k2,k3⟩
  ·exact .inl h
  ·refine .inr ⟨i',x',k1,k2,fun h=>?_⟩
   rcases h with h|h
   ·exact k3 h
   ·subst h
    have:=D.inj qn p _ _ _ k1 hp
    subst this
    rw[hp] at k1
    injection k1 with k1
    injection k1 with e1 e2
    subst e2
    rw[hE] at k2
    cases k2
 have hE_is:x.op.isE=true→p=qn:=by
  intro hE
  rcases Nat.lt_trichotomy p qn with h|h|h
  ·exact absurd (J.bef p i x h hp hE) hnl
  ·exact h
  ·rcases J.nxt with h'|⟨i',x',k1,k2,k3⟩
   ·omega
   ·have hb:=pair_E (D.pw qn p _ _ h k1 hp) k2 (by dsimp only;rw[hE];simp)
    exact absurd (D.cls L J.closed i o ho hpr i' hb) k3
 have hLA_lt:(x.op.isL||x.op.isA)=true→p<qn:=by
  intro hla
  rcases Nat.lt_or_ge p qn with h|h
  ·exact h
  ·rcases J.nxt with h'|⟨i',x',k1,k2,k3⟩
   ·omega
   ·have hne:p≠qn:=by
     intro e
     subst e
     rw[hp] at k1
     injection k1 with k1
     injection k1 with e1 e2
     subst e2
     cases hx:x.op<;>rw[hx] at hla k2<;>first|(cases hla;done)|cases k2
    have hb:=pair_E (D.pw qn p _ _ (by omega) k1 hp) k2 (by dsimp only;rw[hla];simp)
    exact absurd (D.cls L J.closed i o ho hpr i' hb) k3
 unfold wpOp
 rw[ho]
 dsimp only
 obtain⟨-,htr⟩:=D.tr p i x hp
 rcases htr with ⟨hw,hv,hst⟩|⟨hw,hop,hsl⟩
 ·
  have hwo:=wanted_gs (ops:=ops) hg hFk (hcw.trans hw)
  rw[if_neg (by rw[hwo];exact Bool.false_ne_true)]
  have hVu:V C w (val p) undef:=by rw[hv];unfold V;rfl
  cases hE:x.op.isE with
  | false=>exact stay hE hVu (Mv.refl _ _ _) J.stp (fun p' i' x' h1 h2 h3 h4 h5=>J.un p' i' x' h1 h2 h3 (fun h=>h4 (.inl h)) h5)
  | true =>
   have hpq:=hE_is hE
   subst hpq
   obtain⟨qn2,S,g1,g2,g3,g4,g5,g6⟩:=adv (C2:=C) (w2:=w) rfl hE (by rw[hst];exact J.stp.rel) (by rw[hst];exact Nat.le_refl _) (by rw[hst];exact Nat.le_refl _) (fun _ _ h=>h) (fun _ _ h=>h)
   rw[hst] at S
   exact hK _ _ qn2 C (J.go D hp ho hpr hnl hVu (Mv.refl _ _ _) (J.stp.trans S) g1 g2 g3 g4 g5 g6)
 ·have hwo:=wanted_gs (ops:=ops) hg hFk (hcw.trans hw)
  rw[if_pos hwo]
  refine .inl ?_
  have hN:x.op.isN=false:=by
   have:=D.one p _ hp
   unfold oneOk at this
   simp at this
   exact this.1.2
  cases hE:x.op.isE with
  | true =>
   have hpq:=hE_is hE
   subst hpq
   refine opv_ok D.hcal J.stp.rel hbq hT hFk ((hcg (st p)).1.trans hop) (fun C2 w2 u h1 h2=>?_)
   obtain⟨qn2,S,g1,g2,g3,g4,g5,g6⟩:=adv (C2:=C2) (w2:=w2) rfl hE h1.rel h1.ol h1.nx h1.um h1.ua
   exact hK _ _ qn2 C2 (J.go D hp ho hpr hnl h2 h1.mv ((J.stp.trans h1).trans S) g1 g2 g3 g4 g5 g6)
  | false =>
   obtain⟨k1,k2⟩:=ext_of hE hN hop
   cases hA:x.op.isA with
   | false =>
    obtain⟨hst,hlv⟩:=k1 hA
    have hlq:lev x.op (env p) (st qn)=some (val p):=by
     cases hLL:x.op.isL with
     | false=>rw[lev_pure (s':=st p) hLL];exact hlv
     | true =>
      have hplq:=hLA_lt (by rw[hLL];rfl)
      exact (D.la J.closed hp (by rw[hLL];rfl) hw hnl J.qle J.bef J.nx qn hplq (Nat.le_refl _)).1 hA
    obtain⟨u,g1,g2⟩:=lev_ok J.stp.rel hT hFk ((hcg (st qn)).2.1.trans hlq)
    unfold Oper.wp
    rw[g1]
    exact stay hE g2 (Mv.refl _ _ _) J.stp (fun p' i' x' h1 h2 h3 h4 h5=>J.un p' i' x' h1 h2 h3 (fun h=>h4 (.inl h)) h5)
   | true =>
    have hav:=k2 hA
    have hplq:=hLA_lt (by rw[hA];simp)
    have hPres:=(D.la J.closed hp (by rw[hA];simp) hw hnl J.qle J.bef J.nx qn hplq (Nat.le_refl _)).2 hA
    have hUn:=J.un p i x hplq hp hA hnl hw
    have hmo0:=(J.mo 0 p (Nat.zero_le _) (by omega))
    have diff:∀ (p':Nat) i' x',p'<qn→q[p']?=some (i',x')→x'.op.isA=true→¬ (L i'∨i'=i)→wanted x'.grd (env p')=some true→((val p=.ref (st p).objs.length 0∨val p=.mp (st p).objs.length)→(val p'=.ref (st p').objs.length 0∨val p'=.mp (st p').objs.length)→st (p+1)≠st p→(st p').objs.length=(st p).objs.length→(st (p+1)).objs.length=(st p).objs.length+1→(st (p'+1)).objs.length=(st p').objs.length+1→False):=by
     intro p' i' x' h1 h2 h3 h4 h5 _ _ _ he e1 e2
     rcases Nat.lt_trichotomy p' p with h|h|h
     ·have:=(J.mo (p'+1) p (by omega) (by omega)).1;omega
     ·subst h
      rw[hp] at h2
      injection h2 with h2
      injection h2 with q1 q2
      exact h4 (.inr q1.symm)
     ·have:=(J.mo (p+1) p' (by omega) (by omega)).1;omega
    have diffA:∀ (p':Nat) i' x',p'<qn→q[p']?=some (i',x')→¬ (L i'∨i'=i)→(st p').nxt=(st p).nxt→(st (p+1)).nxt=(st p).nxt+1→(st (p'+1)).nxt=(st p').nxt+1→False:=by
     intro p' i' x' h1 h2 h4 he e1 e2
     rcases Nat.lt_trichotomy p' p with h|h|h
     ·have:=(J.mo (p'+1) p (by omega) (by omega)).2;omega
     ·subst h
      rw[hp] at h2
      injection h2 with h2
      injection h2 with q1 q2
      exact h4 (.inr q1.symm)
     ·have:=(J.mo (p+1) p' (by omega) (by omega)).2;omega
    obtain⟨obj,hmk⟩:=make_ok (C:=C) (w:=w) (s0:=st qn) J.stp.rel hT hFk hA ((hcg (st p)).2.2.2.trans hav)
    have hgrow:w.heap.size<(w.alloc obj).heap.size:=by rw[alloc_size];omega
    have hold:∀ k,k<w.heap.size→(w.alloc obj).heap[k]?=w.heap[k]?:=fun k hk=>heap_alloc_old w _ k hk
    rcases hmk with ⟨ob,u,hs2,hlow,hval,hrun,hOR⟩|⟨cs,el,len,cp,hcp,hs2,hval,hrun,hAR⟩
    ·have hlen1:(st (p+1)).objs.length=(st p).objs.length+1:=by rw[hs2];show ((st p).objs++[ob]).length=_;simp
     have hob1:(st (p+1)).objs[(st p).objs.length]?=some ob:=by rw[hs2];show ((st p).objs++[ob])[_]?=_;simp
     have hobq:(st qn).objs[(st p).objs.length]?=some ob∧C.m (st p).objs.length=none:=by
      rcases hval with ⟨hval,-⟩|⟨hval,-⟩<;>(
       rw[hval] at hPres hUn
       obtain⟨ob',e1,e2⟩:=hPres
       rw[hob1] at e1
       injection e1 with e1
       subst e1
       exact⟨e2,hUn⟩)
     have M0:Mv (st qn).objs.length C w (C.box (st p).objs.length w.heap.size) (w.alloc obj):=by
      have M0:Mv (st qn).objs.length C w C (w.alloc obj):=Mv.world0 J.stp.rel hold _
      refine⟨fun r b _ hb=>?_,M0.ma,M0.hc⟩
      show (if r=_ then _ else _)=_
      rw[if_neg (fun e=>by rw[e,hobq.2] at hb;cases hb)]
      exact hb
     obtain⟨R2,M2⟩:=J.stp.rel.mapBox hobq.1 hobq.2 hgrow hold (hOR _ M0)
     have hlt0:∀ r,r<(st 0).objs.length→r≠(st p).objs.length:=fun r hr=>by omega
     have hS2:Stp base bs C0 (st 0) w0 (C.box (st p).objs.length w.heap.size) (st qn) (w.alloc obj) :=
      ⟨R2,J.stp.mv.trans (M2.le J.stp.ol),J.stp.be.alloc J.stp.rel.szb _,J.stp.ol,fun r hr hm=>by
       show (if r=(st p).objs.length then _ else _)=_
       rw[if_neg (hlt0 r hr)];exact J.stp.um r hr hm,J.stp.ua,J.stp.nx,J.stp.cl⟩
     unfold Oper.wp
     rw[hrun]
     refine stay hE ?_ M2 hS2 (fun p' i' x' h1 h2 h3 h4 h5=>?_)
     ·rcases hval with ⟨hval,rfl⟩|⟨hval,rfl⟩
      ·rw[hval];exact V_box
      ·rw[hval];unfold V;exact⟨w.heap.size,by show (if _=_ then _ else _)=_;rw[if_pos rfl],rfl⟩
     ·have hu:=J.un p' i' x' h1 h2 h3 (fun h=>h4 (.inl h)) h5
      have hE':x'.op.isE=false:=by cases hx:x'.op<;>rw[hx] at h3<;>first|rfl|cases h3
      have hvp:val p=.ref (st p).objs.length 0∨val p=.mp (st p).objs.length:=by rcases hval with ⟨h,-⟩|⟨h,-⟩;exact .inl h;exact .inr h
      have hne:st (p+1)≠st p:=fun e=>by rw[e] at hlen1;omega
      rcases D.quiet h2 hE' with ⟨-,g2⟩|⟨-,-,-,⟨ob',g1,-,g2|g2⟩|⟨cs',el',len',g1,g2⟩⟩
      ·rw[(g2 h5).1] at h3;cases h3
      ·have e:(st (p'+1)).objs.length=(st p').objs.length+1:=by rw[g1];show ((st p').objs++[ob']).length=_;simp
       rw[g2] at hu ⊢
       show (if (st p').objs.length=(st p).objs.length then _ else _)=_
       rw[if_neg (fun he=>diff p' i' x' h1 h2 h3 h4 h5 hvp (.inl g2) hne he hlen1 e)]
       exact hu
      ·have e:(st (p'+1)).objs.length=(st p').objs.length+1:=by rw[g1];show ((st p').objs++[ob']).length=_;simp
       rw[g2] at hu ⊢
       show (if (st p').objs.length=(st p).objs.length then _ else _)=_
       rw[if_neg (fun he=>diff p' i' x' h1 h2 h3 h4 h5 hvp (.inr g2) hne he hlen1 e)]
       exact hu
      ·rw[g2] at hu ⊢
       exact hu
    ·have hnx1:(st (p+1)).nxt=(st p).nxt+1:=by rw[hs2];rfl
     rw[hval] at hPres hUn
     obtain⟨cs',e1,e2⟩:=hPres
     have hcs:(st (p+1)).arr (st p).nxt=some cs:=by rw[hs2];exact upd_eq
     rw[hcs] at e1
     injection e1 with e1
     subst e1
     have M0:Mv (st qn).objs.length C w (C.array (st p).nxt w.heap.size cp el.size) (w.alloc obj):=by
      have M0:Mv (st qn).objs.length C w C (w.alloc obj):=Mv.world0 J.stp.rel hold _
      refine⟨M0.m,fun aa b hb=>?_,M0.hc⟩
      have hne:aa≠(st p).nxt:=fun e=>by subst e;replace hUn:C.ma _=none:=hUn;rw[hUn] at hb;cases hb
      refine⟨?_,?_,?_⟩
      ·show (if aa=_ then _ else _)=_;rw[if_neg hne];exact hb
      ·show (if aa=_ then _ else _)=_;rw[if_neg hne]
      ·show (if aa=_ then _ else _)=_;rw[if_neg hne]
     obtain⟨R2,M2⟩:=J.stp.rel.mapArray e2 hUn hgrow hold (hAR _ M0)
     have hS2:Stp base bs C0 (st 0) w0 (C.array (st p).nxt w.heap.size cp el.size) (st qn) (w.alloc obj) :=
      ⟨R2,J.stp.mv.trans (M2.le J.stp.ol),J.stp.be.alloc J.stp.rel.szb _,J.stp.ol,J.stp.um,fun r hr hm=>by
       show (if r=(st p).nxt then _ else _)=_
       rw[if_neg (by omega)];exact J.stp.ua r hr hm,J.stp.nx,J.stp.cl⟩
     unfold Oper.wp
     rw[hrun]
     refine stay hE (by rw[hval];exact V_array hcp) M2 hS2 (fun p' i' x' h1 h2 h3 h4 h5=>?_)
     have hu:=J.un p' i' x' h1 h2 h3 (fun h=>h4 (.inl h)) h5
     have hE':x'.op.isE=false:=by cases hx:x'.op<;>rw[hx] at h3<;>first|rfl|cases h3
     rcases D.quiet h2 hE' with ⟨-,g2⟩|⟨-,-,-,⟨ob',g1,-,g2|g2⟩|⟨cs',el',len',g1,g2⟩⟩
     ·rw[(g2 h5).1] at h3;cases h3
     ·rw[g2] at hu ⊢;exact hu
     ·rw[g2] at hu ⊢;exact hu
     ·rw[g2] at hu ⊢
      show (if (st p').nxt=(st p).nxt then _ else _)=_
      rw[if_neg (fun he=>diffA p' i' x' h1 h2 h4 he hnx1 (by rw[g1];rfl))]
      exact hu
theorem getD_set (l:Array Bool) (i k:Nat) (hi:i<l.size):(l.setIfInBounds i true).getD k false=(decide (k=i)||l.getD k false):=by
 rw[Array.getD_eq_getD_getElem?,Array.getD_eq_getD_getElem?]
 by_cases h:i=k
 ·subst h;rw[Array.getElem?_setIfInBounds_self_of_lt hi];simp
 ·rw[Array.getElem?_setIfInBounds_ne h];simp[Ne.symm h]
theorem trOrd_ord {P:Program} {n:Nat} {ops:Array Oper} {fz:Nat→Bool}:∀ {ord:List Nat} {q:List (Nat × AX)},trOrd P n ops fz ord=some q→q.map (·.1)=ord
 | [],q,h=>by injection h with h;subst h;rfl
 | k::ks,q,h=>by
  unfold trOrd at h
  cases ho:ops[k]? with
  | none=>rw[ho] at h;cases h
  | some o =>
   rw[ho] at h
   dsimp only at h
   cases hx:trAX P n ops o (fz k) with
   | none=>simp only[hx] at h;cases h
   | some y =>
    cases hxs:trOrd P n ops fz ks with
    | none=>simp only[hx,hxs] at h;cases h
    | some ys =>
     simp only[hx,hxs] at h
     injection h with h
     subst h
     rw[List.map_cons,trOrd_ord hxs]
theorem withChk_fst {cl:List Nat}:∀ {rest pre:List (Nat × AX)},(withChk cl pre rest).map (·.1)=rest.map (·.1)
 | [],pre=>rfl
 | (j,y)::rest,pre=>by unfold withChk;rw[List.map_cons,List.map_cons,withChk_fst]
abbrev Trc (cal:Nat→List AV→St→Option (AV × St)) (bs:Nat) (l:List AX) (env:Nat→Env) (st:Nat→St) (val:Nat→AV):Prop:=∀ (p:Nat) x,l[p]?=some x→env (p+1)=put (env p) x.dst (val p)∧((wanted x.grd (env p)=some false∧val p=.un∧st (p+1)=st p)∨(wanted x.grd (env p)=some true∧opv cal bs x.op (env p) (st p)=some (val p,st (p+1))∧stills (env p) (st p) (st (p+1)) x.chk))
theorem draw_dat {P:Program} {base bs n cal} {ops:Array Oper} {fz:Nat→Bool} {ord:List Nat} {axs:List AX} (hcal:SimC P base cal) (ht:trDraw P n ops fz ord=some axs) {env:Nat→Env} {st:Nat→St} {val:Nat→AV} (h5:Trc cal bs axs env st val) :
  ∃ (q:List (Nat × AX)) (cl:List Nat),axs=q.map (·.2)∧Dat P base bs n cal ops cl q env st val∧q.map (·.1)=ord∧∀ (p:Nat) i x,q[p]?=some (i,x)→∃ o x0,ops[i]?=some o∧trAX P n ops o (fz i)=some x0∧x.dst=x0.dst∧x.op=x0.op∧x.grd=x0.grd:=by
 unfold trDraw at ht
 cases hq:trOrd P n ops fz ord with
 | none=>rw[hq] at ht;cases ht
 | some q0 =>
  rw[hq] at ht
  dsimp only at ht
  split at ht
  case isFalse=>cases ht
  rename_i hc
  obtain⟨c1,c2,c3,c4,c5⟩:=hc
  injection ht with ht
  obtain⟨cl,hcl⟩:∃ cl,cl=clos ops.toList []:=⟨_,rfl⟩
  rw[←hcl] at ht c2
  obtain⟨q,hqd⟩:∃ q,q=withChk cl [] q0:=⟨_,rfl⟩
  rw[←hqd] at ht
  subst ht
  have hlen:q.length=q0.length:=by rw[hqd];exact withChk_len
  have hback:∀ (p:Nat) i x,q[p]?=some (i,x)→∃ x0,q0[p]?=some (i,x0)∧x.dst=x0.dst∧x.op=x0.op∧x.grd=x0.grd∧(x0.op.isE=true→∀ j y d,(j,y)∈q0.take p→(y.op.isL||y.op.isA)=true→(cl.getD i 0).testBit j=false→y.dst=some d→(d,y.grd,y.op)∈x.chk):=by
   intro p i x hp
   have hlt:p<q0.length:=by rw[←hlen];exact lt_of_some hp
   obtain⟨y,hy⟩:∃ y,q0[p]?=some y:=⟨_,List.getElem?_eq_getElem hlt⟩
   obtain⟨j,y⟩:=y
   obtain⟨c,g1,g2,g3⟩:=withChk_get (cl:=cl) (rest:=q0) (pre:=[]) hy
   rw[←hqd,hp] at g1
   injection g1 with g1
   injection g1 with e1 e2
   subst e1 e2
   exact⟨y,hy,rfl,rfl,rfl,fun hE j' y' d hm=>g3 hE j' y' d (by simpa using hm)⟩
  have hpre:∀ (os:List Oper) (k:Nat),predsOk ord ops.size k os=true→∀ (i:Nat) o,os[i]?=some o→∀ j∈preds o,j<ops.size∧ord.idxOf j<ord.idxOf (k+i):=by
   intro os
   induction os with
   | nil=>intro k _ i o h;cases h
   | cons o1 os ih =>
    intro k hk i o h j hj
    unfold predsOk at hk
    rw[Bool.and_eq_true] at hk
    cases i with
    | zero =>
     injection h with h
     subst h
     have:=List.all_eq_true.1 hk.1 j hj
     simpa using this
    | succ i =>
     have:=ih (k+1) hk.2 i o h j hj
     rw[show k+(i+1)=k+1+i by omega]
     exact this
  have hpair:∀ (p p':Nat) x y,p<p'→q[p]?=some x→q[p']?=some y→pairOk cl x y=true:=by
   intro p p' x y hpp hx hy
   obtain⟨i,x⟩:=x
   obtain⟨j,y⟩:=y
   obtain⟨x0,e0,e1,e2,e3,-⟩:=hback p i x hx
   obtain⟨y0,f0,f1,f2,f3,-⟩:=hback p' j y hy
   have:=pairsOk_get c2 hpp e0 f0
   unfold pairOk AX.uses at this ⊢
   dsimp only at this ⊢
   rw[e1,e2,e3,f1,f2,f3]
   exact this
  have hne:∀ (p p':Nat) i x x',q[p]?=some (i,x)→q[p']?=some (i,x')→p=p':=by
   intro p p' i x x' hx hx'
   rcases Nat.lt_trichotomy p p' with h|h|h
   ·have:=hpair p p' _ _ h hx hx'
    unfold pairOk at this
    simp at this
   ·exact h
   ·have:=hpair p' p _ _ h hx' hx
    unfold pairOk at this
    simp at this
  have hone:∀ (p:Nat) x,q[p]?=some x→oneOk ops.size x=true:=by
   intro p x hx
   obtain⟨i,x⟩:=x
   obtain⟨x0,e0,e1,e2,e3,-⟩:=hback p i x hx
   have:=List.all_eq_true.1 c3 _ (List.mem_of_getElem? e0)
   unfold oneOk AX.uses at this ⊢
   dsimp only at this ⊢
   rw[e1,e2,e3]
   exact this
  have hqsz:q.length=ops.size:=hlen.trans c1
  have hbsub:∀ L:Nat→Prop,(∀ (k:Nat) o,ops[k]?=some o→L k→∀ i∈preds o,L i)→∀ (k:Nat) o,ops[k]?=some o→(∀ i∈preds o,L i)→∀ i,(cl.getD k 0).testBit i=true→L i:=by
   intro L hL k o hk hp i hi
   rw[hcl] at hi
   exact clos_ok (all:=ops.toList) (fun k o h=>hL k o (by rw[←Array.getElem?_toList];exact h)) ops.toList [] (by simp) (fun k o h=>by cases h) k o (by rw[Array.getElem?_toList];exact hk) hp i hi
  have hsur:∀ i,i<ops.size→∃ (p:Nat) (x:AX),q[p]?=some (i,x):=by
   intro i hi
   have h:=List.all_eq_true.1 c5 i (List.mem_range.2 hi)
   obtain⟨y,hy,hyi⟩:=List.any_eq_true.1 h
   obtain⟨k,hk⟩:=List.getElem?_of_mem hy
   have hlt:k<q.length:=by rw[hlen];exact lt_of_some hk
   obtain⟨z,hz⟩:∃ z,q[k]?=some z:=⟨_,List.getElem?_eq_getElem hlt⟩
   obtain⟨z1,z2⟩:=z
   obtain⟨x0,e0,-⟩:=hback k z1 z2 hz
   rw[hk] at e0
   injection e0 with e0
   have:z1=i:=by rw[e0] at hyi;simpa using hyi
   subst this
   exact⟨k,z2,hz⟩
  have D:Dat P base bs n cal ops cl q env st val:=by
   refine⟨hcal,?_,hne,hsur,hpair,hone,?_,hbsub,?_,?_⟩
   ·intro p i x hp
    obtain⟨x0,e0,e1,e2,e3,-⟩:=hback p i x hp
    obtain⟨o,g1,g2⟩:=trOrd_get hq p i x0 e0
    obtain⟨t1,t2,t3,t4,t5⟩:=trAX_spec g2
    refine⟨o,fz i,g1,by rw[e2];exact t1,e1.trans t2,t4,?_⟩
    rw[e3]
    exact t5
   ·intro p p' i x j y d hpp hx hy hla hE hb hd
    obtain⟨x0,e0,e1,e2,e3,-⟩:=hback p i x hx
    obtain⟨y0,f0,f1,f2,f3,f4⟩:=hback p' j y hy
    have hm:(i,x0)∈q0.take p':=by
     refine List.mem_of_getElem? (i:=p) ?_
     rw[List.getElem?_take,if_pos hpp]
     exact e0
    have:=f4 (by rw[←f2];exact hE) i x0 d hm (by rw[←e2];exact hla) hb (by rw[←e1];exact hd)
    rw[e2,e3]
    exact this
   ·refine⟨ord.idxOf,fun i o ho k hk=>?_⟩
    have:=hpre ops.toList 0 c4 i o (by rw[Array.getElem?_toList];exact ho) k hk
    rw[Nat.zero_add] at this
    exact this
   ·intro p i x hp
    have hm:(q.map (·.2))[p]?=some x:=by rw[List.getElem?_map,hp];rfl
    exact h5 p x hm
  refine⟨q,cl,rfl,D,by rw[hqd,withChk_fst];exact trOrd_ord hq,fun p i x hp=>?_⟩
  obtain⟨x0,e0,e1,e2,e3,-⟩:=hback p i x hp
  obtain⟨o,g1,g2⟩:=trOrd_get hq p i x0 e0
  exact⟨o,x0,g1,g2,e1,e2,e3⟩
theorem draw_J0 {P:Program} {base bs n:Nat} {cal:Nat→List AV→St→Option (AV × St)} {ops:Array Oper} {cl:List Nat} {q:List (Nat × AX)} {env:Nat→Env} {st:Nat→St} {val:Nat→AV} (D:Dat P base bs n cal ops cl q env st val) {C:Cx} {w:World} {a:Act} (hbs0:bs≤(st 0).objs.length) (R0:Rel base C (st 0) w) (hF:FR C w (env 0) a) (hn:a.tmps.size=n):∃ qn,JJ P base bs n ops q env st val C w a (fun _=>False) a w qn C:=by
 obtain⟨qn,g1,g2,g3,g4⟩:=first_E q q.length 0 (by omega)
 obtain⟨S,M,X⟩:=D.ext hbs0 R0 qn g1 g2 (fun p i x _ h=>g4 p i x (Nat.zero_le _) h)
 refine⟨qn,?_⟩
 ·refine⟨fun _ _ _ h=>h.elim,hn,rfl,g2,?_,fun p i x h1 h2 h3=>?_,fun p p'=>M p p' (Nat.zero_le _),fun p=>X p (Nat.zero_le _),S,fun _ _ _ _ _ h=>h.elim,fun t y _ hy=>?_,fun p i x h1 h2 h3 _ h5=>?_⟩
  ·rcases g3 with h|⟨i,x,k1,k2⟩
   ·exact .inl h
   ·exact .inr ⟨i,x,k1,k2,fun h=>h⟩
  ·have:=g4 p i x (Nat.zero_le _) h1 h2;rw[h3] at this;cases this
  ·exact hF t y hy
  ·have hE':x.op.isE=false:=g4 p i x (Nat.zero_le _) h1 h2
   have hm:=M 0 p (Nat.zero_le _) (Nat.zero_le _) (by omega)
   rcases D.quiet h2 hE' with ⟨-,k2⟩|⟨-,-,-,⟨ob,k1,-,k2|k2⟩|⟨cs,el,len,k1,k2⟩⟩
   ·rw[(k2 h5).1] at h3;cases h3
   ·rw[k2]
    show C.m _=none
    cases hmm:C.m (st p).objs.length with
    | none=>rfl
    | some b=>have:=(R0.mlt _ b hmm).1;omega
   ·rw[k2]
    show C.m _=none
    cases hmm:C.m (st p).objs.length with
    | none=>rfl
    | some b=>have:=(R0.mlt _ b hmm).1;omega
   ·rw[k2]
    show C.ma _=none
    cases hmm:C.ma (st p).nxt with
    | none=>rfl
    | some b=>have:=(R0.alt _ b hmm).1;omega
theorem allOf_of {P:Program} {base bs n:Nat} {cal:Nat→List AV→St→Option (AV × St)} {ops:Array Oper} {cl:List Nat} {q:List (Nat × AX)} {env:Nat→Env} {st:Nat→St} {val:Nat→AV} (D:Dat P base bs n cal ops cl q env st val) (listed:Array Bool) (hno:∀ i o,ops[i]?=some o→listed.getD i false=false→∃ k∈preds o,listed.getD k false=false):∀ i,i<ops.size→listed.getD i false=true:=by
 obtain⟨rk,hrk⟩:=D.pre
 have key:∀ (m i:Nat),rk i<m→i<ops.size→listed.getD i false=true:=by
  intro m
  induction m with
  | zero=>intro i h;omega
  | succ m ih =>
   intro i hm hi
   cases hl:listed.getD i false with
   | true=>rfl
   | false =>
    obtain⟨o,ho⟩:∃ o,ops[i]?=some o:=⟨_,Array.getElem?_eq_getElem hi⟩
    obtain⟨k,hk,hkl⟩:=hno i o ho hl
    have hlt:=hrk i o ho k hk
    rw[ih k (by omega) hlt.1] at hkl
    cases hkl
 exact fun i hi=>key _ i (Nat.lt_succ_self _) hi
theorem draw_main {P:Program} {base bs n:Nat} {cal:Nat→List AV→St→Option (AV × St)} {ops:Array Oper} {cl:List Nat} {q:List (Nat × AX)} {env:Nat→Env} {st:Nat→St} {val:Nat→AV} (D:Dat P base bs n cal ops cl q env st val) {C:Cx} {w:World} {a:Act} (hbs0:bs≤(st 0).objs.length) (hn:a.tmps.size=n) {Q:Exit→Act→World→Prop} (hQ:∀ a' w',Af base bs C (st 0) w a (env q.length) (st q.length) a' w'→Q .normal a' w'):∀ (fuel:Nat) (listed:Array Bool) (a':Act) (w':World) (qn:Nat) (C':Cx),listed.size=ops.size→JJ P base bs n ops q env st val C w a (fun k=>listed.getD k false=true) a' w' qn C' →
   ((List.range ops.size).filter fun k=>!listed.getD k false).length≤fuel→wpAny P .any ops Q fuel listed a' w':=by
  have hsur:=D.sur
  have last:∀ (listed:Array Bool) (a':Act) (w':World) (qn:Nat) (C':Cx),JJ P base bs n ops q env st val C w a (fun k=>listed.getD k false=true) a' w' qn C'→(∀ k,k<ops.size→listed.getD k false=true)→Q .normal a' w':=by
   intro listed a' w' qn C' J hall
   have hqn:qn=q.length:=by
    rcases J.nxt with h|⟨i,x,k1,k2,k3⟩
    ·exact h
    ·obtain⟨o,fz',ho,-⟩:=D.trk qn i x k1
     exact absurd (hall i (Array.getElem?_eq_some_iff.1 ho).1) k3
   subst hqn
   refine hQ a' w' ⟨⟨C',J.stp,fun t x hx=>?_⟩,J.sz.trans hn.symm,J.de⟩
   by_cases hex:∃ (p:Nat) (i:Nat) (y:AX),q[p]?=some (i,y)∧y.dst=some t
   ·obtain⟨p,i,y,k1,k2⟩:=hex
    rw[D.env_in k1 k2 q.length (lt_of_some k1) (Nat.le_refl _)] at hx
    injection hx with hx
    subst hx
    obtain⟨o,fz',ho,-⟩:=D.trk p i y k1
    exact J.f1 p i y t k1 (hall i (Array.getElem?_eq_some_iff.1 ho).1) k2
   ·rw[D.env_out q.length (Nat.le_refl _) (fun p i y _ k1 k2=>hex ⟨p,i,y,k1,k2⟩)] at hx
    exact J.f2 t x (fun p i y k1 _ k2=>hex ⟨p,i,y,k1,k2⟩) hx
  have allOf:∀ (listed:Array Bool),(∀ i o,ops[i]?=some o→listed.getD i false=false→∃ k∈preds o,listed.getD k false=false)→∀ i,i<ops.size→listed.getD i false=true:=by
   intro listed hno
   obtain⟨rk,hrk⟩:=D.pre
   have key:∀ (m i:Nat),rk i<m→i<ops.size→listed.getD i false=true:=by
    intro m
    induction m with
    | zero=>intro i h;omega
    | succ m ih =>
     intro i hm hi
     cases hl:listed.getD i false with
     | true=>rfl
     | false =>
      obtain⟨o,ho⟩:∃ o,ops[i]?=some o:=⟨_,Array.getElem?_eq_getElem hi⟩
      obtain⟨k,hk,hkl⟩:=hno i o ho hl
      have hlt:=hrk i o ho k hk
      rw[ih k (by omega) hlt.1] at hkl
      cases hkl
   exact fun i hi=>key _ i (Nat.lt_succ_self _) hi
  have hready:∀ (listed:Array Bool),listed.size=ops.size→∀ i,i∈Region.ready .any ops listed↔∃ o,ops[i]?=some o∧listed.getD i false=false∧∀ k∈preds o,listed.getD k false=true:=by
   intro listed hsz i
   rw[mem_ready]
   constructor
   ·rintro⟨k1,o,k2,k3⟩
    have hi:=(Array.getElem?_eq_some_iff.1 k2).1
    refine⟨o,k2,?_,fun k hk=>?_⟩
    ·rw[Array.getD_eq_getD_getElem?,Array.getElem?_eq_getElem (by omega)] at k1 ⊢
     exact k1
    ·obtain⟨e,he,rfl⟩:=List.mem_map.1 hk
     obtain⟨e1,e2⟩:=List.mem_filter.1 he
     exact k3 e (by simpa using e1) e2
   ·rintro⟨o,k2,k1,k3⟩
    have hi:=(Array.getElem?_eq_some_iff.1 k2).1
    refine⟨?_,o,k2,fun e he hb=>k3 _ (List.mem_map.2 ⟨e,List.mem_filter.2 ⟨by simpa using he,hb⟩,rfl⟩)⟩
    rw[Array.getD_eq_getD_getElem?,Array.getElem?_eq_getElem (by omega)] at k1 ⊢
    exact k1
  intro fuel
  induction fuel with
  | zero =>
   intro listed a' w' qn C' hsz J hc
   have hall:∀ k,k<ops.size→listed.getD k false=true:=by
    intro k hk
    cases hl:listed.getD k false with
    | true=>rfl
    | false =>
     have:k∈(List.range ops.size).filter fun k=>!listed.getD k false:=List.mem_filter.2 ⟨List.mem_range.2 hk,by rw[hl];rfl⟩
     have h0:((List.range ops.size).filter fun k=>!listed.getD k false)=[]:=List.eq_nil_of_length_eq_zero (by omega)
     rw[h0] at this
     cases this
   refine⟨?_,last listed a' w' qn C' J hall⟩
   refine List.eq_nil_iff_forall_not_mem.2 (fun i hi=>?_)
   obtain⟨o,k1,k2,k3⟩:=(hready listed hsz i).1 hi
   rw[hall i (Array.getElem?_eq_some_iff.1 k1).1] at k2
   cases k2
  | succ fuel ih =>
   intro listed a' w' qn C' hsz J hc
   refine⟨fun hnil=>last listed a' w' qn C' J (allOf listed (fun i o ho hl=>?_)),fun i hi=>?_⟩
   ·refine Classical.byContradiction (fun hno=>?_)
    have:i∈Region.ready .any ops listed:=(hready listed hsz i).2 ⟨o,ho,hl,fun k hk=>by
     cases hkl:listed.getD k false with
     | true=>rfl
     | false=>exact absurd ⟨k,hk,hkl⟩ hno⟩
    rw[hnil] at this
    cases this
   ·obtain⟨o,k1,k2,k3⟩:=(hready listed hsz i).1 hi
    have hilt:=(Array.getElem?_eq_some_iff.1 k1).1
    obtain⟨p,x,hp⟩:=hsur i hilt
    refine JJ.step D hbs0 J hp k1 k3 (by rw[k2];exact Bool.false_ne_true) (fun a2 w2 qn2 C2 J2=>?_)
    have hL:(fun k=>listed.getD k false=true∨k=i)=fun k=>(listed.setIfInBounds i true).getD k false=true:=by
     funext k
     rw[getD_set _ _ _ (by omega)]
     simp[or_comm]
    rw[hL] at J2
    refine ih _ a2 w2 qn2 C2 (by simpa using hsz) J2 ?_
    have hlen2:∀ (l:List Nat),l.Nodup→i∈l→(l.filter fun k=>!(listed.setIfInBounds i true).getD k false).length+1≤(l.filter fun k=>!listed.getD k false).length:=by
     intro l
     induction l with
     | nil=>intro _ h;cases h
     | cons b l ihl =>
      intro hnd hm
      rw[List.nodup_cons] at hnd
      have same:∀ (m:List Nat),i∉m→(m.filter fun k=>!(listed.setIfInBounds i true).getD k false)=(m.filter fun k=>!listed.getD k false):=by
       intro m hm
       refine List.filter_congr (fun k hk=>?_)
       have hne:i≠k:=fun e=>hm (e▸hk)
       rw[getD_set _ _ _ (by omega)]
       simp[Ne.symm hne]
      by_cases hb:b=i
      ·subst hb
       rw[List.filter_cons,List.filter_cons,same l hnd.1,getD_set _ _ _ (by omega),k2]
       simp
      ·have hml:i∈l:=by
        rcases List.mem_cons.1 hm with h|h
        ·exact absurd h.symm hb
        ·exact h
       have:=ihl hnd.2 hml
       rw[List.filter_cons,List.filter_cons,getD_set _ _ _ (by omega)]
       simp only[hb,decide_false,Bool.false_or]
       cases listed.getD b false<;>simp only[Bool.not_true,Bool.not_false,if_true,if_false,List.length_cons,Bool.false_eq_true,ite_true,ite_false]<;>omega
    have:=hlen2 (List.range ops.size) List.nodup_range (List.mem_range.2 hilt)
    omega
theorem none_listed (n:Nat):(fun k=>(Array.replicate n false).getD k false=true)=fun _=>False:=by
 funext k
 rw[Array.getD_eq_getD_getElem?]
 by_cases hk:k<n
 ·simp[hk]
 ·rw[Array.getElem?_eq_none (by simp;omega)];simp
theorem draw_ok {P:Program} {base bs n cal} {ops:Array Oper} {fz:Nat→Bool} {ord:List Nat} {axs:List AX} (hcal:SimC P base cal) (ht:trDraw P n ops fz ord=some axs) {C s w e a e' s'} (R:Rel base C s w) (hbs:bs≤s.objs.length) (hF:FR C w e a) (hn:a.tmps.size=n)
  (hr:runOps cal bs axs e s=some (e',s')) {Q:Exit→Act→World→Prop} (hQ:∀ a' w',Af base bs C s w a e' s' a' w'→Q .normal a' w'):wpAny P .any ops Q ops.size (Array.replicate ops.size false) a w:=by
 obtain⟨env,st,val,h1,h2,h3,h4,h5⟩:=trace_ex hr
 obtain⟨q,cl,hq,D,-,-⟩:=draw_dat hcal ht h5
 have hlen:axs.length=q.length:=by rw[hq,List.length_map]
 have hbs0:bs≤(st 0).objs.length:=by rw[h2];exact hbs
 obtain⟨qn,J⟩:=draw_J0 D (C:=C) (w:=w) (a:=a) hbs0 (by rw[h2];exact R) (by rw[h1];exact hF) hn
 refine draw_main D hbs0 hn (fun a' w' af=>hQ a' w' ?_) ops.size (Array.replicate ops.size false) a w qn C (by simp) (by rw[none_listed];exact J) (Nat.le_trans (List.length_filter_le _ _) (by simp))
 rw[←hlen,h2,h3,h4] at af
 exact af
end
end Go.Am
