/- Part 7 of a machine for Go's pure part and of walks on it. -/
import Derived.Test.YtlogfeflmlfghaaGreatM6
import Derived.Scope
open Nat renaming reduceEqDiff → nA,reduceAdd → nB,reduceLeDiff → nC,reduceLT → nD,reduceMul → nE
open Int renaming reduceBEq → iA,reduceBNe → iB,reduceLT → iC,reduceLE → iD,reduceGT → iE,reduceGE → iF
set_option maxRecDepth 100000
set_option linter.unusedSimpArgs false
set_option linter.unusedVariables false
set_option linter.unusedSectionVars false
namespace Go.Am
open Go Go.RowKit
variable {P:Program}
def behind (i:Nat) (o:Oper):Oper:={ o with after:=o.after.push ⟨i,.data⟩ }
def later (ops:Array Oper) (i j:Nat):Array Oper:=ops.mapIdx fun k o=>if k=j then behind i o else o
theorem later_get {ops:Array Oper} {i j k:Nat}:(later ops i j)[k]?=(ops[k]?).map fun o=>if k=j then behind i o else o:=by unfold later;rw[Array.getElem?_mapIdx]
theorem later_size {ops:Array Oper} {i j:Nat}:(later ops i j).size=ops.size:=by unfold later;rw[Array.size_mapIdx]
section
variable {ops:Array Oper} {Q:Exit→Act→World→Prop} {i j:Nat}
theorem later_yielded:yielded (later ops i j)=yielded ops:=by
 funext tmps k
 unfold yielded
 rw[later_get]
 cases ops[k]? with
 | none=>rfl
 | some o =>
  simp only[Option.map_some,Option.bind_some]
  by_cases hk:k=j
  ·rw[if_pos hk];rfl
  ·rw[if_neg hk]
theorem later_op {k a w} {K:Act→World→Prop} (h:wpOp P (later ops i j) Q k K a w):wpOp P ops Q k K a w:=by
 unfold wpOp at h ⊢
 rw[later_get,later_yielded] at h
 cases ho:ops[k]? with
 | none=>rw[ho] at h;exact h
 | some o =>
  rw[ho] at h
  simp only[Option.map_some] at h
  by_cases hk:k=j
  ·rw[if_pos hk] at h;exact h
  ·rw[if_neg hk] at h;exact h
theorem later_ready {listed:Array Bool} {k:Nat}:k∈Region.ready .any (later ops i j) listed↔k∈Region.ready .any ops listed∧(k=j→listed.getD i false=true):=by
 rw[mem_ready,mem_ready,later_get]
 constructor
 ·rintro⟨h1,o,h2,h3⟩
  cases ho:ops[k]? with
  | none=>rw[ho] at h2;cases h2
  | some o' =>
   rw[ho] at h2
   simp only[Option.map_some] at h2
   injection h2 with h2
   subst h2
   by_cases hk:k=j
   ·rw[if_pos hk] at h3
    exact⟨⟨h1,o',rfl,fun e he=>h3 e (Array.mem_push.2 (.inl he))⟩,fun _=>h3 ⟨i,.data⟩ (Array.mem_push.2 (.inr rfl)) rfl⟩
   ·rw[if_neg hk] at h3
    exact⟨⟨h1,o',rfl,h3⟩,fun h=>absurd h hk⟩
 ·rintro⟨⟨h1,o,h2,h3⟩,h4⟩
  refine⟨h1,_,by rw[h2];rfl,fun e he hb=>?_⟩
  dsimp only at he
  by_cases hk:k=j
  ·rw[if_pos hk] at he
   rcases Array.mem_push.1 he with he|he
   ·exact h3 e he hb
   ·subst he;exact h4 hk
  ·rw[if_neg hk] at he
   exact h3 e he hb
theorem later_done:∀ (fuel:Nat) (listed:Array Bool) (a:Act) (w:World),listed.getD i false=true→wpAny P .any (later ops i j) Q fuel listed a w→wpAny P .any ops Q fuel listed a w:=by
 have hr:∀ listed:Array Bool,listed.getD i false=true→(Region.ready .any ops listed=[]→Region.ready .any (later ops i j) listed=[])∧(Region.ready .any (later ops i j) listed=[]→Region.ready .any ops listed=[]):=fun listed hl =>
  ⟨fun h=>List.eq_nil_iff_forall_not_mem.2 fun k hk=>by rw[later_ready,h] at hk;exact (nomatch hk.1),fun h=>List.eq_nil_iff_forall_not_mem.2 fun k hk=>by have:=(later_ready (i:=i) (j:=j)).2 ⟨hk,fun _=>hl⟩;rw[h] at this;exact (nomatch this)⟩
 intro fuel
 induction fuel with
 | zero=>intro listed a w hl h;exact⟨(hr listed hl).2 h.1,h.2⟩
 | succ fuel ih =>
  intro listed a w hl h
  refine⟨fun hn=>h.1 ((hr listed hl).1 hn),fun k hk=>?_⟩
  refine wpOp_mono (fun a w h=>ih _ a w ?_ h) (later_op (h.2 k (later_ready.2 ⟨hk,fun _=>hl⟩)))
  have hi:i<listed.size:=by
   rcases Nat.lt_or_ge i listed.size with h|h
   ·exact h
   ·rw[Array.getD_eq_getD_getElem?,Array.getElem?_eq_none h] at hl;cases hl
  have hki:k<listed.size∨listed.size≤k:=Nat.lt_or_ge _ _
  rw[Array.getD_eq_getD_getElem?] at hl ⊢
  by_cases hik:k=i
  ·subst hik;rw[Array.getElem?_setIfInBounds_self_of_lt hi];rfl
  ·rw[Array.getElem?_setIfInBounds_ne hik];exact hl
end
theorem trAX_later {n i j f} {ops:Array Oper} {o:Oper} {k:Nat}:trAX P n (later ops i j) (if k=j then behind i o else o) f=trAX P n ops o f:=by
 have h1:trOp P (if k=j then behind i o else o) f=trOp P o f:=by split<;>rfl
 have h2:(if k=j then behind i o else o).dst=o.dst:=by split<;>rfl
 have h3:(if k=j then behind i o else o).guard=o.guard:=by split<;>rfl
 have h4:∀ m:Nat,((later ops i j)[m]?).bind (·.dst)=(ops[m]?).bind (·.dst):=fun m=>by
  rw[later_get]
  cases ops[m]? with
  | none=>rfl
  | some o=>simp only[Option.map_some,Option.bind_some];split<;>rfl
 unfold trAX
 rw[h1,h2,h3]
 simp only[h4]
theorem preds_later {i j k:Nat} {o:Oper} {m:Nat} (h:m∈preds o):m∈preds (if k=j then behind i o else o):=by
 split
 ·unfold preds behind at *
  obtain⟨e,he,h1⟩:=List.mem_map.1 h
  obtain⟨h2,h3⟩:=List.mem_filter.1 he
  exact List.mem_map.2 ⟨e,List.mem_filter.2 ⟨by simp;exact .inl (by simpa using h2),h3⟩,h1⟩
 ·exact h
theorem ready_iff {ops:Array Oper} {listed:Array Bool} (hsz:listed.size=ops.size) (i:Nat):i∈Region.ready .any ops listed↔∃ o,ops[i]?=some o∧listed.getD i false=false∧∀ k∈preds o,listed.getD k false=true:=by
 rw[mem_ready]
 constructor
 ·rintro⟨k1,o,k2,k3⟩
  have hi:=(Array.getElem?_eq_some_iff.1 k2).1
  refine⟨o,k2,?_,fun k hk=>?_⟩
  ·rw[Array.getD_eq_getD_getElem?,Array.getElem?_eq_getElem (by omega)] at k1 ⊢
   exact k1
  ·obtain⟨e,he,rfl⟩:=List.mem_map.1 hk
   obtain⟨e1,e2⟩:=List.mem_filter.1 he
   exact k3 e (by simpa using e1) e2
 ·rintro⟨o,k2,k1,k3⟩
  have hi:=(Array.getElem?_eq_some_iff.1 k2).1
  refine⟨?_,o,k2,fun e he hb=>k3 _ (List.mem_map.2 ⟨e,List.mem_filter.2 ⟨by simpa using he,hb⟩,rfl⟩)⟩
  rw[Array.getD_eq_getD_getElem?,Array.getElem?_eq_getElem (by omega)] at k1 ⊢
  exact k1
theorem count_less {listed:Array Bool} {i m:Nat} (hi:i<listed.size) (hsz:listed.size=m) (hl:listed.getD i false=false):((List.range m).filter fun k=>!(listed.setIfInBounds i true).getD k false).length+1≤((List.range m).filter fun k=>!listed.getD k false).length:=by
 have hlen2:∀ (l:List Nat),l.Nodup→i∈l→(l.filter fun k=>!(listed.setIfInBounds i true).getD k false).length+1≤(l.filter fun k=>!listed.getD k false).length:=by
  intro l
  induction l with
  | nil=>intro _ h;cases h
  | cons b l ihl =>
   intro hnd hm
   rw[List.nodup_cons] at hnd
   have same:∀ (m:List Nat),i∉m→(m.filter fun k=>!(listed.setIfInBounds i true).getD k false)=(m.filter fun k=>!listed.getD k false):=by
    intro m hm
    refine List.filter_congr (fun k hk=>?_)
    have hne:i≠k:=fun e=>hm (e▸hk)
    rw[getD_set _ _ _ hi]
    simp[Ne.symm hne]
   by_cases hb:b=i
   ·subst hb
    rw[List.filter_cons,List.filter_cons,same l hnd.1,getD_set _ _ _ hi,hl]
    simp
   ·have hml:i∈l:=by
     rcases List.mem_cons.1 hm with h|h
     ·exact absurd h.symm hb
     ·exact h
    have:=ihl hnd.2 hml
    rw[List.filter_cons,List.filter_cons,getD_set _ _ _ hi]
    simp only[hb,decide_false,Bool.false_or]
    cases listed.getD b false<;>simp only[Bool.not_true,Bool.not_false,if_true,if_false,List.length_cons,Bool.false_eq_true,ite_true,ite_false]<;>omega
 exact hlen2 (List.range m) List.nodup_range (List.mem_range.2 (by omega))
theorem either_ok {base bs n cal} {ops:Array Oper} {fz:Nat→Bool} {ord:List Nat} {i j:Nat} {axs ays:List AX} (hcal:SimC P base cal) (hij:i≠j) (ht1:trDraw P n (later ops i j) fz (ord++[i,j])=some axs) (ht2:trDraw P n (later ops j i) fz (ord++[j,i])=some ays)
  (hE:∀ x,axs[ord.length]?=some x→x.op.isE=true) (hE2:∀ x,ays[ord.length]?=some x→x.op.isE=true) {C s w e a e' s'} (R:Rel base C s w) (hbs:bs≤s.objs.length) (hF:FR C w e a) (hn:a.tmps.size=n)
  (hr1:runOps cal bs axs e s=some (e',s')) (hr2:runOps cal bs ays e s=some (e',s')) {Q:Exit→Act→World→Prop} (hQ:∀ a' w',Af base bs C s w a e' s' a' w'→Q .normal a' w'):wpAny P .any ops Q ops.size (Array.replicate ops.size false) a w:=by
 obtain⟨env1,st1,val1,u1,u2,u3,u4,u5⟩:=trace_ex hr1
 obtain⟨env2,st2,val2,v1,v2,v3,v4,v5⟩:=trace_ex hr2
 obtain⟨q1,cl1,hq1,D1,T1⟩:=draw_dat hcal ht1 u5
 obtain⟨q2,cl2,hq2,D2,T2⟩:=draw_dat hcal ht2 v5
 have hl1:axs.length=q1.length:=by rw[hq1,List.length_map]
 have hl2:ays.length=q2.length:=by rw[hq2,List.length_map]
 have hn1:q1.length=ord.length+2:=by have:=congrArg List.length T1.1;simpa using this
 have hn2:q2.length=ord.length+2:=by have:=congrArg List.length T2.1;simpa using this
 have hfst:∀ {q:List (Nat × AX)} {o:List Nat} {p:Nat} {k x},q.map (·.1)=o→q[p]?=some (k,x)→o[p]?=some k:=fun hq hp=>by rw[←hq,List.getElem?_map,hp];rfl
 have same:∀ (p:Nat) k x y,q1[p]?=some (k,x)→q2[p]?=some (k,y)→y.dst=x.dst∧y.op=x.op∧y.grd=x.grd:=by
  intro p k x y hp hp'
  obtain⟨o,x0,g2,g3,g4,g5,g6⟩:=T1.2 p k x hp
  obtain⟨o',y0,k2,k3,k4,k5,k6⟩:=T2.2 p k y hp'
  rw[later_get] at g2 k2
  cases ho:ops[k]? with
  | none=>rw[ho] at g2;cases g2
  | some o0 =>
   rw[ho] at g2 k2
   simp only[Option.map_some] at g2 k2
   injection g2 with g2
   injection k2 with k2
   subst g2 k2
   rw[trAX_later] at g3 k3
   rw[g3] at k3
   injection k3 with k3
   subst k3
   exact⟨k4.trans g4.symm,k5.trans g5.symm,k6.trans g6.symm⟩
 have o1:∀ (p:Nat) k x,p<ord.length→q1[p]?=some (k,x)→∃ y,q2[p]?=some (k,y)∧y.dst=x.dst∧y.op=x.op∧y.grd=x.grd:=by
  intro p k x hlt hp
  obtain⟨⟨k',y⟩,hp'⟩:∃ z,q2[p]?=some z:=⟨_,List.getElem?_eq_getElem (by omega)⟩
  have h1:=hfst T1.1 hp
  have h2:=hfst T2.1 hp'
  rw[List.getElem?_append_left hlt] at h1 h2
  rw[h1] at h2
  injection h2 with h2
  subst h2
  exact⟨y,hp',same p k x y hp hp'⟩
 have o2:∀ (p:Nat) k y,p<ord.length→q2[p]?=some (k,y)→∃ x,q1[p]?=some (k,x)∧y.dst=x.dst∧y.op=x.op∧y.grd=x.grd:=by
  intro p k y hlt hp'
  obtain⟨⟨k',x⟩,hp⟩:∃ z,q1[p]?=some z:=⟨_,List.getElem?_eq_getElem (by omega)⟩
  have h1:=hfst T1.1 hp
  have h2:=hfst T2.1 hp'
  rw[List.getElem?_append_left hlt] at h1 h2
  rw[h1] at h2
  injection h2 with h2
  subst h2
  exact⟨x,hp,same p _ x y hp hp'⟩
 have env:∀ p,p≤ord.length→env2 p=env1 p∧st2 p=st1 p:=by
  intro p
  induction p with
  | zero=>intro _;exact⟨v1.trans u1.symm,v2.trans u2.symm⟩
  | succ p ih =>
   intro hp
   obtain⟨e1,e2⟩:=ih (by omega)
   obtain⟨⟨k,x⟩,hx⟩:∃ z,q1[p]?=some z:=⟨_,List.getElem?_eq_getElem (by omega)⟩
   obtain⟨y,hy,d1,d2,d3⟩:=o1 p k x (by omega) hx
   obtain⟨a1,a2⟩:=D1.tr p k x hx
   obtain⟨b1,b2⟩:=D2.tr p k y hy
   rw[d1,e1] at b1
   rw[d2,d3,e1,e2] at b2
   rcases a2 with ⟨w1,w2,w3⟩|⟨w1,w2,w3⟩<;>rcases b2 with ⟨z1,z2,z3⟩|⟨z1,z2,z3⟩
   ·rw[a1,b1,w2,z2,w3,z3];exact⟨rfl,rfl⟩
   ·rw[w1] at z1;cases z1
   ·rw[w1] at z1;cases z1
   ·rw[w2] at z2
    injection z2 with z2
    injection z2 with c1 c2
    rw[a1,b1,c1,c2];exact⟨rfl,rfl⟩
 have val:∀ (p:Nat),p<ord.length→val2 p=val1 p:=by
  intro p hp
  obtain⟨⟨k,x⟩,hx⟩:∃ z,q1[p]?=some z:=⟨_,List.getElem?_eq_getElem (by omega)⟩
  obtain⟨y,hy,d1,d2,d3⟩:=o1 p k x hp hx
  obtain⟨e1,e2⟩:=env p (by omega)
  obtain⟨-,a2⟩:=D1.tr p k x hx
  obtain⟨-,b2⟩:=D2.tr p k y hy
  rw[d2,d3,e1,e2] at b2
  rcases a2 with ⟨w1,w2,w3⟩|⟨w1,w2,w3⟩<;>rcases b2 with ⟨z1,z2,z3⟩|⟨z1,z2,z3⟩
  ·rw[w2,z2]
  ·rw[w1] at z1;cases z1
  ·rw[w1] at z1;cases z1
  ·rw[w2] at z2
   injection z2 with z2
   injection z2 with c1 c2
   exact c1.symm
 obtain⟨⟨i',xi⟩,hxi⟩:∃ z,q1[ord.length]?=some z:=⟨_,List.getElem?_eq_getElem (by omega)⟩
 have hi':i'=i:=by have:=hfst T1.1 hxi;rw[List.getElem?_append_right (Nat.le_refl _),Nat.sub_self] at this;injection this with this;exact this.symm
 subst hi'
 have hEi:xi.op.isE=true:=hE xi (by rw[hq1,List.getElem?_map,hxi];rfl)
 have past1:∀ (p:Nat) k x,q1[p]?=some (k,x)→ord.length≤p→k=i'∨k=j:=by
  intro p k x hp hle
  have:=hfst T1.1 hp
  have hlt:=lt_of_some hp
  rw[List.getElem?_append_right hle] at this
  rcases Nat.lt_or_ge p (ord.length+1) with h|h
  ·rw[show p - ord.length=0 by omega] at this;injection this with this;exact .inl this.symm
  ·rw[show p - ord.length=1 by omega] at this;injection this with this;exact .inr this.symm
 have past2:∀ (p:Nat) k x,q2[p]?=some (k,x)→ord.length≤p→k=j∨k=i':=by
  intro p k x hp hle
  have:=hfst T2.1 hp
  have hlt:=lt_of_some hp
  rw[List.getElem?_append_right hle] at this
  rcases Nat.lt_or_ge p (ord.length+1) with h|h
  ·rw[show p - ord.length=0 by omega] at this;injection this with this;exact .inl this.symm
  ·rw[show p - ord.length=1 by omega] at this;injection this with this;exact .inr this.symm
 have turn:∀ {L:Nat→Prop} {a' w' qn C'},¬ L i'→¬ L j→JJ P base bs n (later ops i' j) q1 env1 st1 val1 C w a L a' w' qn C'→JJ P base bs n (later ops j i') q2 env2 st2 val2 C w a L a' w' qn C':=by
  intro L a' w' qn C' hLi hLj J
  have hqn:qn≤ord.length:=by
   rcases Nat.lt_or_ge ord.length qn with h|h
   ·exact absurd (J.bef ord.length i' xi h hxi hEi) hLi
   ·exact h
  refine⟨fun k o hk hLk m hm=>?_,J.sz,J.de,by omega,?_,fun p k y h1 h2 h3=>?_,fun p p' h1 h2=>?_,fun p h1=>?_,?_,fun p k y d h1 h2 h3=>?_,fun t y h1 h2=>?_,fun p k y h1 h2 h3 h4 h5=>?_⟩
  ·rw[later_get] at hk
   cases ho:ops[k]? with
   | none=>rw[ho] at hk;cases hk
   | some o0 =>
    rw[ho] at hk
    simp only[Option.map_some] at hk
    injection hk with hk
    rw[if_neg (fun e:k=i'=>hLi (e▸hLk))] at hk
    subst hk
    refine J.closed k _ (by rw[later_get,ho];rfl) hLk m ?_
    exact preds_later hm
  ·rcases J.nxt with h|⟨k,x,k1,k2,k3⟩
   ·omega
   ·rcases Nat.lt_or_ge qn ord.length with h|h
    ·obtain⟨y,hy,d1,d2,d3⟩:=o1 qn k x h k1
     exact .inr ⟨k,y,hy,by rw[d2];exact k2,k3⟩
    ·have hqe:qn=ord.length:=by omega
     subst hqe
     obtain⟨⟨k',y⟩,hy⟩:∃ z,q2[ord.length]?=some z:=⟨_,List.getElem?_eq_getElem (by omega)⟩
     have hk':=hfst T2.1 hy
     rw[List.getElem?_append_right (Nat.le_refl _),Nat.sub_self] at hk'
     injection hk' with hk'
     subst hk'
     exact .inr ⟨_,y,hy,hE2 y (by rw[hq2,List.getElem?_map,hy];rfl),hLj⟩
  ·obtain⟨x,hx,d1,d2,d3⟩:=o2 p k y (by omega) h2
   exact J.bef p k x h1 hx (by rw[←d2];exact h3)
  ·rw[(env p (by omega)).2,(env p' (by omega)).2];exact J.mo p p' h1 h2
  ·rw[(env p (by omega)).2];exact J.nx p h1
  ·rw[(env 0 (by omega)).2,(env qn hqn).2];exact J.stp
  ·have hlt:p<ord.length:=by
    rcases Nat.lt_or_ge p ord.length with h|h
    ·exact h
    ·rcases past2 p k y h1 h with h|h
     ·exact absurd (h▸h2) hLj
     ·exact absurd (h▸h2) hLi
   obtain⟨x,hx,d1,d2,d3⟩:=o2 p k y hlt h1
   rw[val p hlt]
   exact J.f1 p k x d hx h2 (by rw[←d1];exact h3)
  ·rw[(env 0 (by omega)).1] at h2
   refine J.f2 t y (fun p k x g1 g2 g3=>?_) h2
   have hlt:p<ord.length:=by
    rcases Nat.lt_or_ge p ord.length with h|h
    ·exact h
    ·rcases past1 p k x g1 h with h|h
     ·exact absurd (h▸g2) hLi
     ·exact absurd (h▸g2) hLj
   obtain⟨y',hy',d1,d2,d3⟩:=o1 p k x hlt g1
   exact h1 p k y' hy' g2 (by rw[d1];exact g3)
  ·obtain⟨x,hx,d1,d2,d3⟩:=o2 p k y (by omega) h2
   rw[val p (by omega)]
   refine J.un p k x h1 hx (by rw[←d2];exact h3) h4 ?_
   rw[←d3,←(env p (by omega)).1];exact h5
 have hbs1:bs≤(st1 0).objs.length:=by rw[u2];exact hbs
 have hbs2:bs≤(st2 0).objs.length:=by rw[v2];exact hbs
 have hQ1:∀ a' w',Af base bs C (st1 0) w a (env1 q1.length) (st1 q1.length) a' w'→Q .normal a' w':=fun a' w' af=>hQ a' w' (by rw[←hl1,u2,u3,u4] at af;exact af)
 have hQ2:∀ a' w',Af base bs C (st2 0) w a (env2 q2.length) (st2 q2.length) a' w'→Q .normal a' w':=fun a' w' af=>hQ a' w' (by rw[←hl2,v2,v3,v4] at af;exact af)
 have hi:i'<ops.size:=by
  obtain⟨o,x0,g,-⟩:=T1.2 _ _ _ hxi
  have:=(Array.getElem?_eq_some_iff.1 g).1
  rw[later_size] at this
  exact this
 have main:∀ (fuel:Nat) (listed:Array Bool) (a':Act) (w':World) (qn:Nat) (C':Cx),listed.size=ops.size→listed.getD i' false=false→listed.getD j false=false→JJ P base bs n (later ops i' j) q1 env1 st1 val1 C w a (fun k=>listed.getD k false=true) a' w' qn C' →
   ((List.range ops.size).filter fun k=>!listed.getD k false).length≤fuel→wpAny P .any ops Q fuel listed a' w':=by
  have hall:∀ listed:Array Bool,listed.size=ops.size→listed.getD i' false=false→Region.ready .any ops listed≠[]:=by
   intro listed hsz hli hnil
   have:=allOf_of D1 listed (fun k o hk hl=>?_) i' (by rw[later_size];exact hi)
   ·rw[hli] at this;cases this
   ·refine Classical.byContradiction (fun hno=>?_)
    have hr:k∈Region.ready .any (later ops i' j) listed:=(ready_iff (by rw[later_size];exact hsz) k).2 ⟨o,hk,hl,fun m hm=>by
     cases hkl:listed.getD m false with
     | true=>rfl
     | false=>exact absurd ⟨m,hm,hkl⟩ hno⟩
    have:=(later_ready.1 hr).1
    rw[hnil] at this
    cases this
  intro fuel
  induction fuel with
  | zero =>
   intro listed a' w' qn C' hsz hli hlj J hc
   have:i'∈(List.range ops.size).filter fun k=>!listed.getD k false:=List.mem_filter.2 ⟨List.mem_range.2 hi,by rw[hli];rfl⟩
   have h0:((List.range ops.size).filter fun k=>!listed.getD k false)=[]:=List.eq_nil_of_length_eq_zero (by omega)
   rw[h0] at this
   cases this
  | succ fuel ih =>
   intro listed a' w' qn C' hsz hli hlj J hc
   refine⟨fun hnil=>absurd hnil (hall listed hsz hli),fun k hk=>?_⟩
   have hkl:listed.getD k false=false:=by
    obtain⟨o,-,h,-⟩:=(ready_iff hsz k).1 hk
    exact h
   have hks:k<listed.size:=by
    obtain⟨o,h,-⟩:=(ready_iff hsz k).1 hk
    rw[hsz];exact (Array.getElem?_eq_some_iff.1 h).1
   have hL:(fun m=>listed.getD m false=true∨m=k)=fun m=>(listed.setIfInBounds k true).getD m false=true:=by
    funext m
    rw[getD_set _ _ _ hks]
    simp[or_comm]
   have hc2:=count_less hks hsz hkl
   by_cases hkj:k=j
   ·subst hkj
    have hr2:k∈Region.ready .any (later ops k i') listed:=later_ready.2 ⟨hk,fun h=>absurd h.symm hij⟩
    obtain⟨o,k1,k2,k3⟩:=(ready_iff (by rw[later_size];exact hsz) k).1 hr2
    obtain⟨p,x,hp⟩:=D2.sur k (Array.getElem?_eq_some_iff.1 k1).1
    have J':=turn (by rw[hli];exact Bool.false_ne_true) (by rw[hlj];exact Bool.false_ne_true) J
    refine wpOp_mono (fun a w h=>later_done (i:=k) (j:=i') _ _ a w (by rw[getD_set _ _ _ hks];simp) h) (later_op (i:=k) (j:=i') (JJ.step D2 hbs2 J' hp k1 k3 (by rw[k2];exact Bool.false_ne_true) (fun a2 w2 qn2 C2 J2=>?_)))
    rw[hL] at J2
    exact draw_main D2 hbs2 hn hQ2 fuel _ a2 w2 qn2 C2 (by rw[later_size];simpa using hsz) J2 (by rw[later_size];omega)
   ·have hr1:k∈Region.ready .any (later ops i' j) listed:=later_ready.2 ⟨hk,fun h=>absurd h hkj⟩
    obtain⟨o,k1,k2,k3⟩:=(ready_iff (by rw[later_size];exact hsz) k).1 hr1
    obtain⟨p,x,hp⟩:=D1.sur k (Array.getElem?_eq_some_iff.1 k1).1
    by_cases hki:k=i'
    ·subst hki
     refine wpOp_mono (fun a w h=>later_done (i:=k) (j:=j) _ _ a w (by rw[getD_set _ _ _ hks];simp) h) (later_op (i:=k) (j:=j) (JJ.step D1 hbs1 J hp k1 k3 (by rw[k2];exact Bool.false_ne_true) (fun a2 w2 qn2 C2 J2=>?_)))
     rw[hL] at J2
     exact draw_main D1 hbs1 hn hQ1 fuel _ a2 w2 qn2 C2 (by rw[later_size];simpa using hsz) J2 (by rw[later_size];omega)
    ·refine later_op (i:=i') (j:=j) (JJ.step D1 hbs1 J hp k1 k3 (by rw[k2];exact Bool.false_ne_true) (fun a2 w2 qn2 C2 J2=>?_))
     rw[hL] at J2
     exact ih _ a2 w2 qn2 C2 (by simpa using hsz) (by rw[getD_set _ _ _ hks,hli];simp[Ne.symm hki]) (by rw[getD_set _ _ _ hks,hlj];simp[Ne.symm hkj]) J2 (by omega)
 obtain⟨qn,J⟩:=draw_J0 D1 (C:=C) (w:=w) (a:=a) hbs1 (by rw[u2];exact R) (by rw[u1];exact hF) hn
 have hfalse:∀ k,(Array.replicate ops.size false).getD k false=false:=fun k=>by
  have:=congrFun (none_listed ops.size) k
  simpa using this
 exact main ops.size (Array.replicate ops.size false) a w qn C (by simp) (hfalse _) (hfalse _) (by rw[none_listed];exact J) (Nat.le_trans (List.length_filter_le _ _) (by simp))
end Go.Am
namespace Go.Am
open Go Go.RowKit
variable {P:Program}
def Cx.cutm (C:Cx) (n:Nat):Cx:={ C with m:=fun r=>if r<n then C.m r else none }
theorem cutm_some {C:Cx} {n r b} (h:(C.cutm n).m r=some b):r<n∧C.m r=some b:=by
 replace h:(if r<n then C.m r else none)=some b:=h
 by_cases hr:r<n
 ·rw[if_pos hr] at h;exact⟨hr,h⟩
 ·rw[if_neg hr] at h;cases h
theorem Mv.cutm (C:Cx) (w:World) (n:Nat):Mv n C w (C.cutm n) w:=⟨fun r b hr h=>by show (if r<n then C.m r else none)=_;rw[if_pos hr];exact h,fun a b h=>⟨h,rfl,rfl⟩,fun b h hh=>⟨hh,fun _ _=>rfl⟩⟩
theorem Rel.cut {base C s w n} (R:Rel base C s w) (hn:n≤s.objs.length) (hc:Cl n s):Rel base (C.cutm n) { s with objs:=s.objs.take n } w:=by
 have M:=Mv.cutm C w n
 have hl:(s.objs.take n).length=n:=by rw[List.length_take];omega
 have hg:∀ (r:Nat) o,(s.objs.take n)[r]?=some o→r<n∧s.objs[r]?=some o:=by
  intro r o h
  have hr:r<n:=by have:=lt_of_some h;omega
  rw[List.getElem?_take,if_pos hr] at h
  exact⟨hr,h⟩
 refine⟨R.szb,fun r b h=>?_,R.alt,R.hlt,fun r r' b h1 h2=>R.mm r r' b (cutm_some h1).2 (cutm_some h2).2,R.aa,fun r a b h1 h2=>R.mx r a b (cutm_some h1).2 h2,fun r b h=>R.mh r b (cutm_some h).2,R.ah,R.nx,fun r o b h1 h2=>?_,fun a cs b h1 h2=>?_,fun r o h=>?_⟩
 ·obtain⟨h1,h2⟩:=cutm_some h
  obtain⟨q1,q2,q3⟩:=R.mlt r b h2
  exact⟨by show r<(s.objs.take n).length;omega,q2,q3⟩
 ·obtain⟨g1,g2⟩:=hg r o h1
  exact OR_mv M (hc r o g1 g2) rfl (R.obj r o b g2 (cutm_some h2).2)
 ·have q:=R.ar a cs b h1 h2
  obtain⟨us,-,-,-,-,q5⟩:=id q
  exact AR_mv M (lowL_le (Nat.zero_le n) q5) rfl q
 ·obtain⟨g1,g2⟩:=hg r o h
  show o.low (s.objs.take n).length=true
  rw[hl]
  exact hc r o g1 g2
theorem Stp.cut {base bs C s w C' s' w' n} (h:Stp base bs C s w C' s' w') (hn:s.objs.length≤n) (hn':n≤s'.objs.length) (hc:Cl n s') (hb:bs≤n):Stp base bs C s w (C'.cutm n) { s' with objs:=s'.objs.take n } w':=by
 refine⟨h.rel.cut hn' hc,h.mv.trans ((Mv.cutm C' w' n).le hn),h.be,?_,fun r hr hm=>?_,h.ua,h.nx,fun k hk hcl r o hr ho=>?_⟩
 ·show _≤(s'.objs.take n).length
  rw[List.length_take];omega
 ·show (if r<n then C'.m r else none)=none
  rw[h.um r hr hm];simp
 ·replace ho:(s'.objs.take n)[r]?=some o:=ho
  rw[List.getElem?_take,if_pos (by omega)] at ho
  exact h.cl k hk hcl r o hr ho
theorem Rel.cl {base C s w} (R:Rel base C s w):Cl s.objs.length s:=fun r o _ h=>R.clo r o h
def Cx.cuta (C:Cx) (n:Nat):Cx:={ C with ma:=fun a=>if a<n then C.ma a else none }
theorem cuta_some {C:Cx} {n a b} (h:(C.cuta n).ma a=some b):a<n∧C.ma a=some b:=by
 replace h:(if a<n then C.ma a else none)=some b:=h
 by_cases hr:a<n
 ·rw[if_pos hr] at h;exact⟨hr,h⟩
 ·rw[if_neg hr] at h;cases h
theorem Nv.cuta (C:Cx) (w:World) (n:Nat):Nv n C w (C.cuta n):=⟨rfl,fun a b ha h=>by show (if a<n then C.ma a else none)=_;rw[if_pos ha];exact h,rfl,rfl,rfl⟩
theorem ME_nv {n C w C'} (h:Nv n C w C'):∀ {es l},ME C w es l→ME C' w es l
 | [],l,hm=>by unfold ME at hm ⊢;exact hm
 | (k,v)::es,l,hm=>by
  unfold ME at hm ⊢
  obtain⟨m,l',h1,h2,h3,h4,h5⟩:=hm
  exact⟨m,l',h1,h2,V_nvf h h4 h3,h4,ME_nv h h5⟩
theorem Stp.back {base bs C s w C2 s2 w2 v} (R:Rel base C s w) (h:Stp base bs C s w C2 s2 w2) (hc:Clean s v s2):Stp base bs C s w (C2.cuta s.nxt) ⟨s2.objs,s.arr,s.nxt⟩ w2:=by
 obtain⟨c1,c2,c3⟩:=hc
 have N:=Nv.cuta C2 w2 s.nxt
 have R2:=h.rel
 have olda:∀ a b,C2.ma a=some b→a<s.nxt→∃ b0,C.ma a=some b0:=by
  intro a b h1 h2
  cases h3:C.ma a with
  | none=>rw[h.ua a h2 h3] at h1;cases h1
  | some b0=>exact⟨b0,rfl⟩
 refine⟨⟨R2.szb,R2.mlt,fun a b h1=>?_,R2.hlt,R2.mm,fun a a' b h1 h2 h3 h4=>?_,fun r a b h1 h2=>?_,R2.mh,fun a b h1 h2=>?_,R.nx,fun r o b h1 h2=>?_,fun a cs b h1 h2=>?_,R2.clo⟩,⟨h.mv.m,fun a b h1=>?_,h.mv.hc⟩,h.be,h.ol,h.um,fun a ha hm=>?_,Nat.le_refl _,h.cl⟩
 ·obtain⟨k1,k2⟩:=cuta_some h1
  exact⟨k1,(R2.alt a b k2).2⟩
 ·obtain⟨k1,k2⟩:=cuta_some h1
  obtain⟨j1,j2⟩:=cuta_some h2
  exact R2.aa a a' b k2 j2 (by rw[c1 a k1];exact h3) (by rw[c1 a' j1];exact h4)
 ·obtain⟨j1,j2⟩:=cuta_some h2
  have:=R2.mx r a b h1 j2
  rw[c1 a j1] at this
  exact this
 ·obtain⟨j1,j2⟩:=cuta_some h1
  exact R2.ah a b j2 (by rw[c1 a j1];exact h2)
 ·have hlow:o.alow s.nxt=true:=by
   rcases c3 r o h1 with h3|h3
   · have hr:=lt_of_some h3
     cases h4:C.m r with
     | none =>
      replace h2:C2.m r=some b:=h2
      rw[h.um r hr h4] at h2;cases h2
     | some b0 =>
      have:=R.obj r o b0 h3 h4
      cases o with
      | map es=>rfl
      | cells cs=>obtain⟨us,-,q,-⟩:=this;exact VL_alow (fun a b h=>(R.alt a b h).1) q
   · exact h3
  have ho:=R2.obj r o b h1 h2
  cases o with
  | cells cs =>
   obtain⟨us,q1,q2,q3⟩:=ho
   exact⟨us,q1,VL_nv N hlow q2,q3⟩
  | map es =>
   obtain⟨l,c,q1,q2⟩:=ho
   exact⟨l,c,q1,ME_nv N q2⟩
 ·obtain⟨j1,j2⟩:=cuta_some h2
  obtain⟨b0,hb0⟩:=olda a b j2 j1
  obtain⟨us0,-,p2,-⟩:=R.ar a cs b0 h1 hb0
  obtain⟨us,q1,q2,q3,q4,q5⟩:=R2.ar a cs b (by rw[c1 a j1];exact h1) j2
  exact⟨us,q1,VL_nv N (VL_alow (fun a b h=>(R.alt a b h).1) p2) q2,q3,q4,q5⟩
 ·obtain⟨q1,q2,q3⟩:=h.mv.ma a b h1
  refine⟨?_,q2,q3⟩
  show (if a<s.nxt then C2.ma a else none)=_
  rw[if_pos (R.alt a b h1).1]
  exact q1
 ·show (if a<s.nxt then C2.ma a else none)=none
  rw[h.ua a ha hm];simp
theorem trAX_le {n n' ops o fz x} (hn:n≤n') (h:trAX P n ops o fz=some x):trAX P n' ops o fz=some x:=by
 unfold trAX at h ⊢
 cases hd:o.dst with
 | none=>rw[hd] at h;exact h
 | some d =>
  rw[hd] at h
  dsimp only at h ⊢
  by_cases hq:d<n
  ·have hq':d<n':=Nat.lt_of_lt_of_le hq hn
   rw[decide_eq_true hq] at h
   rw[decide_eq_true hq']
   exact h
  ·rw[decide_eq_false hq] at h
   cases h1:trOp P o fz with
   | none=>simp only[h1] at h;cases h
   | some q=>simp only[h1] at h;cases h
theorem trPlain_le {n n' ops} (hn:n≤n'):∀ {os fz axs},trPlain P n ops os fz=some axs→trPlain P n' ops os fz=some axs
 | [],fz,axs,h=>h
 | o::os,fz,axs,h=>by
  unfold trPlain at h ⊢
  cases hx:trAX P n ops o (fz.headD false) with
  | none=>simp only[hx] at h;cases h
  | some x =>
   cases hxs:trPlain P n ops os fz.tail with
   | none=>simp only[hx,hxs] at h;cases h
   | some xs =>
     simp only[hx,hxs] at h
     simp only[trAX_le hn hx,trPlain_le hn hxs]
     exact h
theorem trOrd_le {n n' ops fz} (hn:n≤n'):∀ {is q},trOrd P n ops fz is=some q→trOrd P n' ops fz is=some q
 | [],q,h=>h
 | i::is,q,h=>by
  unfold trOrd at h ⊢
  cases ho:ops[i]? with
  | none=>rw[ho] at h;cases h
  | some o =>
   rw[ho] at h
   dsimp only at h ⊢
   cases hx:trAX P n ops o (fz i) with
   | none=>simp only[hx] at h;cases h
   | some x =>
     cases hxs:trOrd P n ops fz is with
     | none=>simp only[hx,hxs] at h;cases h
     | some xs =>
      simp only[hx,hxs] at h
      simp only[trAX_le hn hx,trOrd_le hn hxs]
      exact h
theorem trDraw_le {n n' ops fz ord axs} (hn:n≤n') (h:trDraw P n ops fz ord=some axs):trDraw P n' ops fz ord=some axs:=by
 unfold trDraw at h ⊢
 cases hq:trOrd P n ops fz ord with
 | none=>rw[hq] at h;cases h
 | some q=>rw[hq] at h;rw[trOrd_le hn hq];exact h
structure Hint where
 ks:Option (List Nat)
 fz:List Bool
 ord:List Nat
 tr:Bool
 sw:List Nat
def trCode (P:Program) (n:Nat):Code→List Hint→Option (ACode × List Hint)
 | .skip,hs=>some (.skip,hs)
 | .label _,hs=>some (.skip,hs)
 | .ret,hs=>some (.ret,hs)
 | .exit i,hs=>some (.exit i,hs)
 | .scope c,hs=>trCode P n c hs
 | .block i c,hs =>
  match trCode P n c hs with
  | some (x,hs)=>some (.block i x,hs)
  | none=>none
 | .seq a b,hs =>
  match trCode P n a hs with
  | some (x,hs) =>
   match trCode P n b hs with
   | some (y,hs)=>some (.seq x y,hs)
   | none=>none
  | none=>none
 | .cond c a b,hs =>
  match trX c,trCode P n a hs with
  | some k,some (x,hs) =>
   match trCode P n b hs with
   | some (y,hs)=>some (.cond k x y,hs)
   | none=>none
  | _,_=>none
 | .loop c,h::hs =>
  match trCode P n c hs with
  | some (x,hs)=>some (.loop (if h.tr then .trn x else x),hs)
  | none=>none
 | .region _ ops d,h::hs =>
  match h.sw with
  | [] =>
   match (if d then trDraw P n ops (fun i=>h.fz.getD i false) h.ord else trPlain P n ops ops.toList h.fz) with
   | some axs=>some (.reg h.ks axs,hs)
   | none=>none
  | i::j::ord =>
   if d&&bne i j then
     match trDraw P n (later ops i j) (fun i=>h.fz.getD i false) (ord++[i,j]),trDraw P n (later ops j i) (fun i=>h.fz.getD i false) (ord++[j,i]) with
     | some x,some y=>if (x.drop ord.length).all (fun a=>a.op.isE)&&(y.drop ord.length).all (fun a=>a.op.isE) then some (.two h.ks x y,hs) else none
     | _,_=>none
   else none
  | _=>none
 | _,_=>none
def trRes (P:Program):List ResultVar→Option (List (Arg × Option El))
 | []=>some []
 | .tmp t::rs=>(trRes P rs).map ((.t t,none)::·)
 | .cell a t::rs =>
  match elOf P t,trRes P rs with
  | some el,some l=>some ((.t a,some el)::l)
  | _,_=>none
def trFunc (P:Program) (fn:Func) (hs:List Hint) (fz:Bool):Option AFunc :=
 match fn.body with
 | some c =>
  match trCode P fn.ntmps c hs,trRes P fn.results.toList with
  | some (x,[]),some rs=>some ⟨x,rs,fz⟩
  | _,_=>none
 | none=>none
theorem trCode_le {n n'} (hn:n≤n'):∀ {c hs r},trCode P n c hs=some r→trCode P n' c hs=some r:=by
 intro c
 induction c with
 | skip=>exact fun h=>h
 | label _=>exact fun h=>h
 | ret=>exact fun h=>h
 | exit _=>exact fun h=>h
 | goto _=>exact fun {hs r} h=>by unfold trCode at h;cases h
 | refuse _=>exact fun {hs r} h=>by unfold trCode at h;cases h
 | rangeFunc _ _ _ _=>exact fun {hs r} h=>by unfold trCode at h;cases h
 | scope c ih=>exact fun {hs r} h=>by unfold trCode at h ⊢;exact ih h
 | block i c ih =>
  intro hs r h
  unfold trCode at h ⊢
  cases h1:trCode P n c hs with
  | none=>rw[h1] at h;cases h
  | some p=>rw[h1] at h;rw[ih h1];exact h
 | seq a b iha ihb =>
  intro hs r h
  unfold trCode at h ⊢
  cases h1:trCode P n a hs with
  | none=>rw[h1] at h;cases h
  | some p =>
   rw[h1] at h;rw[iha h1]
   obtain⟨x,hs1⟩:=p
   dsimp only at h ⊢
   cases h2:trCode P n b hs1 with
   | none=>rw[h2] at h;cases h
   | some q=>rw[h2] at h;rw[ihb h2];exact h
 | cond k a b iha ihb =>
  intro hs r h
  unfold trCode at h ⊢
  cases hk:trX k with
  | none=>simp only[hk] at h;cases h
  | some ak =>
   cases h1:trCode P n a hs with
   | none=>simp only[hk,h1] at h;cases h
   | some p =>
     simp only[hk,h1] at h
     simp only[iha h1]
     obtain⟨x,hs1⟩:=p
     dsimp only at h ⊢
     cases h2:trCode P n b hs1 with
     | none=>rw[h2] at h;cases h
     | some q=>rw[h2] at h;rw[ihb h2];exact h
 | loop c ih =>
  intro hs r h
  cases hs with
  | nil=>unfold trCode at h;cases h
  | cons t hs =>
   unfold trCode at h ⊢
   cases h1:trCode P n c hs with
   | none=>simp only[h1] at h;cases h
   | some p=>simp only[h1] at h;simp only[ih h1];exact h
 | region i ops d =>
  intro hs r h
  cases hs with
  | nil=>unfold trCode at h;cases h
  | cons t hs =>
   unfold trCode at h ⊢
   cases hsw:t.sw with
   | nil =>
    rw[hsw] at h
    dsimp only at h ⊢
    cases d with
    | false =>
     rw[if_neg Bool.false_ne_true] at h ⊢
     cases h1:trPlain P n ops ops.toList t.fz with
     | none=>rw[h1] at h;cases h
     | some p=>rw[h1] at h;rw[trPlain_le hn h1];exact h
    | true =>
     rw[if_pos rfl] at h ⊢
     cases h1:trDraw P n ops (fun i=>t.fz.getD i false) t.ord with
     | none=>rw[h1] at h;cases h
     | some p=>rw[h1] at h;rw[trDraw_le hn h1];exact h
   | cons i l =>
     rw[hsw] at h
     cases l with
     | nil=>cases h
     | cons j ord =>
      dsimp only at h ⊢
      split at h
      ·rename_i hd
       rw[if_pos hd]
       cases h1:trDraw P n (later ops i j) (fun i=>t.fz.getD i false) (ord++[i,j]) with
       | none=>simp only[h1] at h;cases h
       | some x =>
        cases h2:trDraw P n (later ops j i) (fun i=>t.fz.getD i false) (ord++[j,i]) with
        | none=>simp only[h1,h2] at h;cases h
        | some y =>
         simp only[h1,h2] at h
         simp only[trDraw_le hn h1,trDraw_le hn h2]
         exact h
      ·cases h
def Ex.go:Ex→Exit
 | .nrm=>.normal
 | .exit i=>.exit i
 | .ret=>.ret
def Tr (P:Program) (n:Nat) (c:Code) (ac:ACode):Prop:=∃ hs hs' y,trCode P n c hs=some (y,hs')∧(ac=y∨ac=.trn y)
theorem Af.trans {base bs C s w a s1 a1 w1 C1 e2 s2 a2 w2} (h:Stp base bs C s w C1 s1 w1) (h1:a1.tmps.size=a.tmps.size) (h2:a1.defers=a.defers) (k:Af base bs C1 s1 w1 a1 e2 s2 a2 w2):Af base bs C s w a e2 s2 a2 w2:=by
 obtain⟨⟨C2,k1,k2⟩,k3,k4⟩:=k
 exact⟨⟨C2,h.trans k1,k2⟩,k3.trans h1,k4.trans h2⟩
theorem FR_keep {C w e a} (ks:Option (List Nat)) (hF:FR C w e a):FR C w (match ks with|some ks=>keep ks e|none=>e) a:=by
 cases ks with
 | none=>exact hF
 | some ks =>
  intro t x hx
  dsimp only at hx
  rw[get_keep] at hx
  split at hx
  ·exact hF t x hx
  ·cases hx
def wpIn (P:Program) (c:Code) (Q:Exit→Act→World→Prop) (a:Act) (w:World):Prop :=
 ∀ (b:Frame) (k:List Item) (cs:List Frame),∃ e a' w',Q e a' w'∧Arrives P (lone (b.at a (.code c::.inLoop c::k)) cs w) b k cs e a' w'
theorem wp_of_in {c:Code} {Q a w} (h:wpIn P c Q a w):(Code.loop c).wp P Q a w:=fun b k cs =>
 let ⟨e,a',w',q,r⟩:=h b k cs;⟨e,a',w',q,.of_steps (.one step_loop) r⟩
theorem wpIn_of {c:Code} {Q a w} (h:c.wp P (Exit.then (wpIn P c Q) Q) a w):wpIn P c Q a w:=by
 intro b k cs
 obtain⟨e,a₁,w₁,hq,harr⟩:=h b (.inLoop c::k) cs
 cases e with
 | normal =>
  obtain⟨e₂,a₂,w₂,hq₂,harr₂⟩:=hq b k cs
  exact⟨e₂,a₂,w₂,hq₂,.of_steps (Steps.trans harr (.one step_inLoop)) harr₂⟩
 | exit id=>exact⟨_,a₁,w₁,hq,.pass (x:=.inLoop c) rfl (fun _ _=>.inl (by simp)) harr⟩
 | goto l=>exact⟨_,a₁,w₁,hq,.pass (x:=.inLoop c) rfl (fun _ _=>.inl (by simp)) harr⟩
 | ret=>exact⟨_,a₁,w₁,hq,.pass (x:=.inLoop c) rfl (fun _ _=>.inl (by simp)) harr⟩
 | panic ch=>exact⟨_,a₁,w₁,hq,.pass (x:=.inLoop c) rfl (fun _ _=>.inl (by simp)) harr⟩
 | outgrown=>exact⟨_,a₁,w₁,hq,.pass (x:=.inLoop c) rfl (fun _ _=>.inl (by simp)) harr⟩
theorem FR_args {C w}:∀ {args us} {k:Nat} {ts:List Value},VT C w args us→ts.length=k→∀ (r:List Value) t x,get (args0 k args) t=some x→V C w x ((ts++us++r).toArray.getD t undef)
 | [],us,k,ts,h,hk,r,t,x,hx=>by cases hx
 | y::ys,us,k,ts,h,hk,r,t,x,hx=>by
  unfold VT at h
  obtain⟨u,us',rfl,h1,h2⟩:=h
  replace hx:(if k=t then some y else get (args0 (k+1) ys) t)=some x:=hx
  by_cases he:k=t
  ·rw[if_pos he] at hx
   injection hx with hx
   subst hx he
   rw[Array.getD_eq_getD_getElem?,List.getElem?_toArray,List.append_assoc,List.getElem?_append_right (by omega),hk]
   simpa using h1
  ·rw[if_neg he] at hx
   have:=FR_args (ts:=ts++[u]) h2 (by simp[hk]) r t x hx
   simpa using this
theorem aload_ptr {C w s el x ux r} (hx:V C w x ux) (h:aload s el x=some r):∃ p,ux=.pointer (some p):=by
 cases x<;>try (cases h;done)
 ·unfold V at hx;obtain⟨b,-,rfl⟩:=hx;exact⟨_,rfl⟩
 ·unfold V at hx;obtain⟨b,-,rfl⟩:=hx;exact⟨_,rfl⟩
 ·unfold V at hx;obtain⟨b,k,h,us,rfl,-⟩:=hx;exact⟨_,rfl⟩
def resOf (tmps:Array Value):ResultVar→Sem Value
 | .tmp t=>pure (tmps.getD t undef)
 | .cell a t=>do loadVar t (← asAddr (tmps.getD a undef))
theorem results_ok {base C s w e} {a:Act} (R:Rel base C s w) (hF:FR C w e a):∀ {rs:List ResultVar} {ars vs},trRes P rs=some ars→Am.results e s ars=some vs →
  ∃ us,(rs.mapM (resOf a.tmps)).run P w=.ok us w∧VT C w vs us
 | [],ars,vs,ht,h=>by
  injection ht with ht
  subst ht
  injection h with h
  subst h
  exact⟨[],rfl,by unfold VT;rfl⟩
 | .tmp t::rs,ars,vs,ht,h=>by
  unfold trRes at ht
  cases h1:trRes P rs with
  | none=>rw[h1] at ht;cases ht
  | some l =>
   rw[h1] at ht
   injection ht with ht
   subst ht
   unfold Am.results at h
   cases h2:(Arg.t t).ev e with
   | none=>rw[h2] at h;cases h
   | some v =>
     rw[h2] at h
     cases h3:Am.results e s l with
     | none=>rw[h3] at h;cases h
     | some vs' =>
      rw[h3] at h
      injection h with h
      subst h
      obtain⟨us,k1,k2⟩:=results_ok R hF h1 h3
      refine⟨a.tmps.getD t undef::us,?_,?_⟩
      ·simp only[List.mapM_cons,Sem.run_bind,Sem.run_pure,Result.andThen_ok,resOf,k1]
      ·unfold VT;exact⟨_,_,rfl,hF t v h2,k2⟩
 | .cell p t::rs,ars,vs,ht,h=>by
  unfold trRes at ht
  cases h0:elOf P t with
  | none=>simp only[h0] at ht;cases ht
  | some el =>
   cases h1:trRes P rs with
   | none=>simp only[h0,h1] at ht;cases ht
   | some l =>
     simp only[h0,h1] at ht
     injection ht with ht
     subst ht
     unfold Am.results at h
     cases h2:lev (.load el (.t p)) e s with
     | none=>rw[h2] at h;cases h
     | some v =>
      rw[h2] at h
      cases h3:Am.results e s l with
      | none=>rw[h3] at h;cases h
      | some vs' =>
       rw[h3] at h
       injection h with h
       subst h
       replace h2:((Arg.t p).ev e).bind (aload s el)=some v:=h2
       cases h4:(Arg.t p).ev e with
       | none=>rw[h4] at h2;cases h2
       | some x =>
        rw[h4] at h2
        replace h2:aload s el x=some v:=h2
        have hV:=hF p x h4
        obtain⟨q,hq,hq2⟩:=aload_ok R h0 hV h2
        obtain⟨ad,had⟩:=aload_ptr hV h2
        rw[had] at hq
        obtain⟨us,k1,k2⟩:=results_ok R hF h1 h3
        refine⟨q::us,?_,?_⟩
        ·simp only[Instr.loadAt,Instr.sureAddr,Sem.run_bind,Sem.run_pure,Result.andThen_ok] at hq
         simp only[List.mapM_cons,Sem.run_bind,Sem.run_pure,Result.andThen_ok,k1,had,asAddr,resOf,hq]
        ·unfold VT;exact⟨_,_,rfl,hq2,k2⟩
theorem one_ok {C w vs us} (h:VT C w vs us):V C w (one vs) (if h:us.toArray.size=1 then us.toArray[0] else .tuple us.toArray):=by
 have hl:=VT_len h
 match vs,us,h,hl with
 | [],us,h,hl =>
  have:us=[]:=List.eq_nil_of_length_eq_zero hl
  subst this
  show V C w (.tup []) (.tuple _)
  unfold V
  exact⟨_,rfl,h⟩
 | [x],us,h,hl =>
  unfold VT at h
  obtain⟨u,us',rfl,h1,h2⟩:=h
  have:us'=[]:=List.eq_nil_of_length_eq_zero (by simpa using hl)
  subst this
  exact h1
 | x::y::zs,us,h,hl =>
  have hne:¬ us.toArray.size=1:=by simp[hl]
  rw[dif_neg hne]
  show V C w (.tup (x::y::zs)) (.tuple _)
  unfold V
  exact⟨_,rfl,h⟩
section
variable {base:Nat} {F:Nat→Option AFunc} {X:Nat→List AV→St→Option (AV × St)}
def CodeOK (P:Program) (base:Nat) (F:Nat→Option AFunc) (X:Nat→List AV→St→Option (AV × St)) (k:Nat):Prop :=
 ∀ n c ac bs e s C w a x e' s',Tr P n c ac→Rel base C s w→bs≤s.objs.length→FR C w e a→a.tmps.size=n→exec F X k bs ac e s=some (x,e',s') →
  ∀ Q:Exit→Act→World→Prop,(∀ a' w',Af base bs C s w a e' s' a' w'→Q x.go a' w')→c.wp P Q a w
def LoopOK (P:Program) (base:Nat) (F:Nat→Option AFunc) (X:Nat→List AV→St→Option (AV × St)) (k:Nat):Prop :=
 ∀ n c ac bs e s C w a x e' s',Tr P n c ac→Rel base C s w→bs≤s.objs.length→FR C w e a→a.tmps.size=n→exec F X k bs (.loop ac) e s=some (x,e',s') →
  ∀ Q:Exit→Act→World→Prop,(∀ a' w',Af base bs C s w a e' s' a' w'→Q x.go a' w')→wpIn P c Q a w
theorem loop_step {k} (hA:CodeOK P base F X k) (hL:LoopOK P base F X k):LoopOK P base F X (k+1):=by
 intro n c ac bs e s C w a x e' s' ht R hbs hF hn h Q hQ
 unfold exec at h
 dsimp only at h
 refine wpIn_of ?_
 cases h1:exec F X k bs ac e s with
 | none=>rw[h1] at h;cases h
 | some p =>
  obtain⟨x1,e1,s1⟩:=p
  rw[h1] at h
  refine hA n c ac bs e s C w a x1 e1 s1 ht R hbs hF hn h1 _ (fun a1 w1 af=>?_)
  cases x1 with
  | nrm =>
   obtain⟨⟨C1,k1,k2⟩,k3,k4⟩:=af
   exact hL n c ac bs e1 s1 C1 w1 a1 x e' s' ht k1.rel (Nat.le_trans hbs k1.ol) k2 (k3.trans hn) h Q (fun a' w' af2=>hQ a' w' (Af.trans k1 k3 k4 af2))
  | exit i =>
   injection h with h
   injection h with e1 e2
   injection e2 with e2 e3
   subst e1 e2 e3
   exact hQ a1 w1 af
  | ret =>
   injection h with h
   injection h with e1 e2
   injection e2 with e2 e3
   subst e1 e2 e3
   exact hQ a1 w1 af
theorem trn_step {k} (hA:CodeOK P base F X k) {n c hs hs' y bs e s C w a x e' s'} (ht:trCode P n c hs=some (y,hs')) (R:Rel base C s w) (hbs:bs≤s.objs.length) (hF:FR C w e a) (hn:a.tmps.size=n)
  (h:exec F X (k+1) bs (.trn y) e s=some (x,e',s')) {Q:Exit→Act→World→Prop} (hQ:∀ a' w',Af base bs C s w a e' s' a' w'→Q x.go a' w'):c.wp P Q a w:=by
 unfold exec at h
 dsimp only at h
 cases h1:exec F X k s.objs.length y e s with
 | none=>rw[h1] at h;cases h
 | some p =>
  obtain⟨x1,e1,s1⟩:=p
  rw[h1] at h
  dsimp only at h
  split at h
  ·rename_i hl
   injection h with h
   injection h with q1 q2
   injection q2 with q2 q3
   subst q1 q2 q3
   refine hA n c y s.objs.length e s C w a x1 e1 s1 ⟨hs,hs',y,ht,.inl rfl⟩ R (Nat.le_refl _) hF hn h1 _ (fun a1 w1 af=>hQ a1 w1 ?_)
   obtain⟨⟨C1,k1,k2⟩,k3,k4⟩:=af
   have hcl:=k1.cl _ (Nat.le_refl _) R.cl
   exact⟨⟨_,(k1.cut (Nat.le_refl _) k1.ol hcl (Nat.le_refl _)).bs hbs,FR_mv (Mv.cutm C1 w1 _) hl k2⟩,k3,k4⟩
  ·injection h with h
   injection h with q1 q2
   injection q2 with q2 q3
   subst q1 q2 q3
   refine hA n c y s.objs.length e s C w a x1 e1 s1 ⟨hs,hs',y,ht,.inl rfl⟩ R (Nat.le_refl _) hF hn h1 _ (fun a1 w1 af=>hQ a1 w1 ?_)
   obtain⟨⟨C1,k1,k2⟩,k3,k4⟩:=af
   exact⟨⟨_,k1.bs hbs,k2⟩,k3,k4⟩
theorem plain_step (hm:P.follows .mixedOrders=true) {k} (hA:CodeOK P base F X k) (hL:LoopOK P base F X k) (hS:SimC P base (call F X k)) {n bs C s w e x e' s'} {a:Act} (R:Rel base C s w) (hbs:bs≤s.objs.length) (hF:FR C w e a) (hn:a.tmps.size=n) :
  ∀ (c:Code) {hs hs' ac} (Q:Exit→Act→World→Prop),trCode P n c hs=some (ac,hs')→exec F X (k+1) bs ac e s=some (x,e',s')→(∀ a' w',Af base bs C s w a e' s' a' w'→Q x.go a' w')→c.wp P Q a w:=by
 have same:∀ {x0:Ex} {Q:Exit→Act→World→Prop},some (x0,e,s)=some (x,e',s')→(∀ a' w',Af base bs C s w a e' s' a' w'→Q x.go a' w')→Q x0.go a w:=by
  intro x0 Q h hQ
  injection h with h
  injection h with q1 q2
  injection q2 with q2 q3
  subst q1 q2 q3
  exact hQ a w ⟨⟨C,Stp.same R hbs,hF⟩,rfl,rfl⟩
 intro c
 induction c with
 | goto _=>intro hs hs' ac Q ht;unfold trCode at ht;cases ht
 | refuse _=>intro hs hs' ac Q ht;unfold trCode at ht;cases ht
 | rangeFunc _ _ _ _=>intro hs hs' ac Q ht;unfold trCode at ht;cases ht
 | skip =>
  intro hs hs' ac Q ht h hQ
  injection ht with ht
  injection ht with ht _
  subst ht
  unfold exec at h
  exact wp_skip (same h hQ)
 | label _ =>
  intro hs hs' ac Q ht h hQ
  injection ht with ht
  injection ht with ht _
  subst ht
  unfold exec at h
  exact wp_label (same h hQ)
 | ret =>
  intro hs hs' ac Q ht h hQ
  injection ht with ht
  injection ht with ht _
  subst ht
  unfold exec at h
  exact wp_ret (same h hQ)
 | exit i =>
  intro hs hs' ac Q ht h hQ
  injection ht with ht
  injection ht with ht _
  subst ht
  unfold exec at h
  exact wp_exit (same h hQ)
 | scope c ih =>
  intro hs hs' ac Q ht h hQ
  refine wp_scope_straight (ih _ ht h (fun a' w' af=>?_))
  have:=hQ a' w' af
  cases x<;>exact this
 | block i c _ =>
  intro hs hs' ac Q ht h hQ
  unfold trCode at ht
  cases h1:trCode P n c hs with
  | none=>rw[h1] at ht;cases ht
  | some p =>
   obtain⟨y,hs1⟩:=p
   rw[h1] at ht
   injection ht with ht
   injection ht with ht _
   subst ht
   unfold exec at h
   dsimp only at h
   refine wp_block ?_
   cases h2:exec F X k bs y e s with
   | none=>rw[h2] at h;cases h
   | some r =>
     obtain⟨x1,e1,s1⟩:=r
     rw[h2] at h
     refine hA n c y bs e s C w a x1 e1 s1 ⟨hs,hs1,y,h1,.inl rfl⟩ R hbs hF hn h2 _ (fun a1 w1 af=>?_)
     cases x1 with
     | nrm =>
      injection h with h
      injection h with q1 q2
      injection q2 with q2 q3
      subst q1 q2 q3
      exact hQ a1 w1 af
     | ret =>
      injection h with h
      injection h with q1 q2
      injection q2 with q2 q3
      subst q1 q2 q3
      exact hQ a1 w1 af
     | exit j =>
      dsimp only at h
      show (if j=i then Q .normal a1 w1 else Q (.exit j) a1 w1)
      by_cases hj:j=i
      ·rw[if_pos hj] at h ⊢
       injection h with h
       injection h with q1 q2
       injection q2 with q2 q3
       subst q1 q2 q3
       exact hQ a1 w1 af
      ·rw[if_neg hj] at h ⊢
       injection h with h
       injection h with q1 q2
       injection q2 with q2 q3
       subst q1 q2 q3
       exact hQ a1 w1 af
 | seq ca cb _ _ =>
  intro hs hs' ac Q ht h hQ
  unfold trCode at ht
  cases h1:trCode P n ca hs with
  | none=>rw[h1] at ht;cases ht
  | some p =>
   obtain⟨y,hs1⟩:=p
   rw[h1] at ht
   dsimp only at ht
   cases h2:trCode P n cb hs1 with
   | none=>rw[h2] at ht;cases ht
   | some p2 =>
     obtain⟨z,hs2⟩:=p2
     rw[h2] at ht
     injection ht with ht
     injection ht with ht _
     subst ht
     unfold exec at h
     dsimp only at h
     refine wp_seq ?_
     cases h3:exec F X k bs y e s with
     | none=>rw[h3] at h;cases h
     | some r =>
      obtain⟨x1,e1,s1⟩:=r
      rw[h3] at h
      refine hA n ca y bs e s C w a x1 e1 s1 ⟨hs,hs1,y,h1,.inl rfl⟩ R hbs hF hn h3 _ (fun a1 w1 af=>?_)
      cases x1 with
      | nrm =>
       obtain⟨⟨C1,k1,k2⟩,k3,k4⟩:=af
       exact hA n cb z bs e1 s1 C1 w1 a1 x e' s' ⟨hs1,hs2,z,h2,.inl rfl⟩ k1.rel (Nat.le_trans hbs k1.ol) k2 (k3.trans hn) h Q (fun a' w' af2=>hQ a' w' (Af.trans k1 k3 k4 af2))
      | ret =>
       injection h with h
       injection h with q1 q2
       injection q2 with q2 q3
       subst q1 q2 q3
       exact hQ a1 w1 af
      | exit j =>
       injection h with h
       injection h with q1 q2
       injection q2 with q2 q3
       subst q1 q2 q3
       exact hQ a1 w1 af
 | cond q ca cb _ _ =>
  intro hs hs' ac Q ht h hQ
  unfold trCode at ht
  cases hk:trX q with
  | none=>simp only[hk] at ht;cases ht
  | some aq =>
   cases h1:trCode P n ca hs with
   | none=>simp only[hk,h1] at ht;cases ht
   | some p =>
     obtain⟨y,hs1⟩:=p
     simp only[hk,h1] at ht
     cases h2:trCode P n cb hs1 with
     | none=>rw[h2] at ht;cases ht
     | some p2 =>
      obtain⟨z,hs2⟩:=p2
      rw[h2] at ht
      injection ht with ht
      injection ht with ht _
      subst ht
      unfold exec at h
      dsimp only at h
      cases h3:aq.ev e with
      | none=>rw[h3] at h;cases h
      | some v =>
       rw[h3] at h
       have hV:=ev_ok hF hk h3
       cases v<;>try (cases h;done)
       rename_i b
       unfold V at hV
       refine wp_cond hV ?_
       cases b with
       | true=>exact hA n ca y bs e s C w a x e' s' ⟨hs,hs1,y,h1,.inl rfl⟩ R hbs hF hn h Q hQ
       | false=>exact hA n cb z bs e s C w a x e' s' ⟨hs1,hs2,z,h2,.inl rfl⟩ R hbs hF hn h Q hQ
 | loop c _ =>
  intro hs hs' ac Q ht h hQ
  cases hs with
  | nil=>unfold trCode at ht;cases ht
  | cons t hs =>
   unfold trCode at ht
   cases h1:trCode P n c hs with
   | none=>simp only[h1] at ht;cases ht
   | some p =>
     obtain⟨y,hs1⟩:=p
     simp only[h1] at ht
     injection ht with ht
     injection ht with ht _
     subst ht
     refine wp_of_in (loop_step hA hL n c _ bs e s C w a x e' s' ⟨hs,hs1,y,h1,?_⟩ R hbs hF hn h Q hQ)
     cases t.tr with
     | true=>exact .inr rfl
     | false=>exact .inl rfl
 | region i ops d =>
  intro hs hs' ac Q ht h hQ
  cases hs with
  | nil=>unfold trCode at ht;cases ht
  | cons t hs =>
   unfold trCode at ht
   have fin:∀ {e1},x=.nrm→e'=(match t.ks with|some ks=>keep ks e1|none=>e1)→∀ a' w',Af base bs C s w a e1 s' a' w'→Q .normal a' w':=by
     intro e1 hx he a' w' af
     obtain⟨⟨C1,k1,k2⟩,k3,k4⟩:=af
     have:=hQ a' w' ⟨⟨C1,k1,by rw[he];exact FR_keep t.ks k2⟩,k3,k4⟩
     rw[hx] at this
     exact this
   have hM:Mv s.objs.length C w C { w with drawn:=w.drawn+1 }:=Mv.world0 (w':={ w with drawn:=w.drawn+1 }) R (fun _ _=>rfl) _
   have R2:Rel base C s { w with drawn:=w.drawn+1 }:=R.world (Nat.le_refl _) (fun _ _=>rfl)
   have S0:Stp base bs C s w C s { w with drawn:=w.drawn+1 }:=⟨R2,hM,(Below.refl base w).drew,Nat.le_refl _,fun _ _ h=>h,fun _ _ h=>h,Nat.le_refl _,fun _ _ h=>h⟩
   cases hsw:t.sw with
   | nil =>
     rw[hsw] at ht
     dsimp only at ht
     have key:∀ {axs},ac=.reg t.ks axs→∃ e1,runOps (call F X k) bs axs e s=some (e1,s')∧x=.nrm∧e'=(match t.ks with|some ks=>keep ks e1|none=>e1):=by
      intro axs hac
      subst hac
      unfold exec at h
      dsimp only at h
      cases h3:runOps (call F X k) bs axs e s with
      | none=>rw[h3] at h;cases h
      | some r =>
       obtain⟨e1,s1⟩:=r
       rw[h3] at h
       injection h with h
       injection h with q1 q2
       injection q2 with q2 q3
       subst q1 q2 q3
       exact⟨e1,rfl,rfl,rfl⟩
     cases d with
     | false =>
      rw[if_neg Bool.false_ne_true] at ht
      cases h1:trPlain P n ops ops.toList t.fz with
      | none=>rw[h1] at ht;cases ht
      | some axs =>
       rw[h1] at ht
       injection ht with ht
       injection ht with ht _
       obtain⟨e1,k1,k2,k3⟩:=key ht.symm
       refine wp_region ?_
       rw[List.range_eq_range',←Array.length_toList]
       exact plain_ok hS h1 (fun j=>by simp) R hbs hF hn k1 (fin k2 k3)
     | true =>
      rw[if_pos rfl] at ht
      cases h1:trDraw P n ops (fun i=>t.fz.getD i false) t.ord with
      | none=>rw[h1] at ht;cases ht
      | some axs =>
       rw[h1] at ht
       injection ht with ht
       injection ht with ht _
       obtain⟨e1,k1,k2,k3⟩:=key ht.symm
       refine wp_region_any hm ?_
       refine draw_ok hS h1 R2 hbs (FR_mv' R hM hF) hn k1 (fun a' w' af=>fin k2 k3 a' w' ?_)
       obtain⟨⟨C1,j1,j2⟩,j3,j4⟩:=af
       exact⟨⟨C1,S0.trans j1,j2⟩,j3,j4⟩
   | cons p l =>
     rw[hsw] at ht
     cases l with
     | nil=>cases ht
     | cons q ord =>
      dsimp only at ht
      split at ht
      ·rename_i hd
       rw[Bool.and_eq_true,bne_iff_ne] at hd
       obtain⟨hd,hpq⟩:=hd
       subst hd
       cases h1:trDraw P n (later ops p q) (fun i=>t.fz.getD i false) (ord++[p,q]) with
       | none=>simp only[h1] at ht;cases ht
       | some ax =>
        cases h2:trDraw P n (later ops q p) (fun i=>t.fz.getD i false) (ord++[q,p]) with
        | none=>simp only[h1,h2] at ht;cases ht
        | some ay =>
         simp only[h1,h2] at ht
         split at ht
         ·rename_i hE
          rw[Bool.and_eq_true] at hE
          injection ht with ht
          injection ht with ht _
          subst ht
          unfold exec at h
          dsimp only at h
          cases h3:runOps (call F X k) bs ax e s with
          | none=>rw[h3] at h;cases h
          | some r =>
           obtain⟨e1,s1⟩:=r
           rw[h3] at h
           obtain⟨h4,h⟩:=tryIf_some h
           injection h with h
           injection h with q1 q2
           injection q2 with q2 q3
           subst q3
           have hlast:∀ {l:List AX},(l.drop ord.length).all (fun a=>a.op.isE)=true→∀ x,l[ord.length]?=some x→x.op.isE=true:=fun hl x hx=>List.all_eq_true.1 hl x (List.mem_of_getElem? (i:=0) (by rw[List.getElem?_drop];exact hx))
           refine wp_region_any hm ?_
           refine either_ok hS hpq h1 h2 (hlast hE.1) (hlast hE.2) R2 hbs (FR_mv' R hM hF) hn h3 h4 (fun a' w' af=>fin q1.symm q2.symm a' w' ?_)
           obtain⟨⟨C1,j1,j2⟩,j3,j4⟩:=af
           exact⟨⟨C1,S0.trans j1,j2⟩,j3,j4⟩
         ·cases ht
      ·cases ht
theorem code_step (hm:P.follows .mixedOrders=true) {k} (hA:CodeOK P base F X k) (hL:LoopOK P base F X k) (hS:SimC P base (call F X k)):CodeOK P base F X (k+1):=by
 intro n c ac bs e s C w a x e' s' ht R hbs hF hn h Q hQ
 obtain⟨hs,hs',y,ht,rfl|rfl⟩:=ht
 ·exact plain_step hm hA hL hS R hbs hF hn c Q ht h hQ
 ·exact trn_step hA ht R hbs hF hn h hQ
def Table (P:Program) (F:Nat→Option AFunc):Prop:=∀ f a,F f=some a→∃ fn hs,P.funcs[f]?=some fn∧(fn.name == "runtime.NumGoroutine")=false∧trFunc P fn hs a.fz=some a
theorem call_step (hT:Table P F) (hX:SimC P base X) {k} (hA:CodeOK P base F X k):SimC P base (call F X (k+1)):=by
 intro f args s r s2 h
 unfold call at h
 cases hf:F f with
 | none=>rw[hf] at h;exact hX f args s r s2 h
 | some af =>
  rw[hf] at h
  dsimp only at h
  obtain⟨fn,hs,hfn,hnm,htr⟩:=hT f af hf
  unfold trFunc at htr
  cases hb:fn.body with
  | none=>rw[hb] at htr;cases htr
  | some c =>
   rw[hb] at htr
   dsimp only at htr
   split at htr
   · rename_i y rs hc hr
     injection htr with htr
     refine⟨⟨fn,hfn,hnm,by rw[hb];rfl⟩,fun C w us R hV=>?_⟩
     refine calls_of_wp hfn hb ?_
     have main:∀ x e1 s1,exec F X k s.objs.length af.body (args0 0 args) s=some (x,e1,s1)→(x=.nrm∨x=.ret)→(match Am.results e1 s1 af.res with
       | some vs =>
        match frzIf af.fz (one vs) s1 with
        | some (v,s2)=>some (v,Am.back s v (cut s.objs.length v s2))
        | none=>none
       | none=>none)=some (r,s2)→c.wp P (bodyPost P fn fun e w'=>∃ C' u,e=.returned u∧Stp base s.objs.length C s w C' s2 w'∧V C' w' r u) { tmps:=us.toArray++Array.replicate (fn.ntmps - us.toArray.size) undef,defers:=[] } w:=by
      intro x e1 s1 hx hxn hres
      have hlen:fn.ntmps≤(us.toArray++Array.replicate (fn.ntmps - us.toArray.size) undef).size:=by simp;omega
      rw[←htr] at hx hres
      refine hA _ c y s.objs.length _ s C w _ x e1 s1 ⟨hs,[],y,trCode_le hlen hc,.inl rfl⟩ R (Nat.le_refl _) ?_ rfl hx _ (fun a' w' af=>?_)
      ·intro t v ht
       have:=FR_args (ts:=[]) hV rfl (List.replicate (fn.ntmps - us.length) undef) t v ht
       have he:us.toArray++Array.replicate (fn.ntmps - us.toArray.size) undef=([]++us++List.replicate (fn.ntmps - us.length) undef).toArray:=by
        apply Array.ext'
        simp
       show V C w v ((us.toArray++Array.replicate (fn.ntmps - us.toArray.size) undef).getD t undef)
       rw[he]
       exact this
      ·obtain⟨⟨C1,k1,k2⟩,k3,k4⟩:=af
       cases hq:Am.results e1 s1 rs with
       | none=>rw[hq] at hres;cases hres
       | some vs =>
        rw[hq] at hres
        dsimp only at hres
        obtain⟨us',m1,m2⟩:=results_ok k1.rel k2 hr hq
        have hrun:(Go.results fn a'.tmps).run P w'=.ok (if h:us'.toArray.size=1 then us'.toArray[0] else .tuple us'.toArray) w':=by
         have:Go.results fn a'.tmps=(do
          let vs ← fn.results.mapM (resOf a'.tmps)
          pure (if h:vs.size=1 then vs[0] else .tuple vs)):=by
          unfold Go.results
          congr 1
         rw[this,Array.mapM_eq_mapM_toList]
         simp only[Sem.run_bind,m1,Result.andThen_ok,Sem.run_pure,map_eq_pure_bind]
        have hone:=one_ok m2
        cases hz:frzIf af.fz (one vs) s1 with
        | none=>rw[hz] at hres;cases hres
        | some p =>
         obtain⟨v,s3⟩:=p
         rw[hz] at hres
         injection hres with hres
         injection hres with q1 q2
         subst q1
         obtain⟨C2,g1,g2⟩:=frzIf_ok _ _ _ _ _ _ k1.rel hone hz
         have S2:Stp base s.objs.length C s w C2 s3 w':=by
          refine k1.trans (g1.stp (Stp.same g1.rel ?_))
          rw[g1.objs]
          exact k1.ol
         have post:∃ C' u,Ending.returned (if h:us'.toArray.size=1 then us'.toArray[0] else .tuple us'.toArray)=.returned u∧Stp base s.objs.length C s w C' s2 w'∧V C' w' v u:=by
          have mid:∃ C',Stp base s.objs.length C s w C' (cut s.objs.length v s3) w'∧V C' w' v (if h:us'.toArray.size=1 then us'.toArray[0] else .tuple us'.toArray):=by
           unfold cut
           by_cases hlow:v.low s.objs.length=true
           ·rw[if_pos hlow]
            have hcl:=S2.cl _ (Nat.le_refl _) R.cl
            exact⟨_,S2.cut (Nat.le_refl _) S2.ol hcl (Nat.le_refl _),V_mv (Mv.cutm C2 w' _) hlow g2⟩
           ·rw[if_neg hlow]
            exact⟨C2,S2,g2⟩
          obtain⟨C3,S3,g3⟩:=mid
          rw[←q2]
          unfold Am.back
          by_cases hcln:Clean s v (cut s.objs.length v s3)
          ·rw[if_pos hcln]
           exact⟨_,_,rfl,S3.back R hcln,V_nv (Nv.cuta C3 w' _) hcln.2.1 g3⟩
          ·rw[if_neg hcln]
           exact⟨C3,_,rfl,S3,g3⟩
         have hd:a'.defers=[]:=k4
         rcases hxn with rfl|rfl
         ·exact⟨hd,_,hrun,post⟩
         ·exact⟨hd,_,hrun,post⟩
     cases hx:exec F X k s.objs.length af.body (args0 0 args) s with
     | none=>rw[hx] at h;cases h
     | some q =>
      obtain⟨x,e1,s1⟩:=q
      rw[hx] at h
      cases x with
      | nrm=>exact main _ e1 s1 hx (.inl rfl) h
      | ret=>exact main _ e1 s1 hx (.inr rfl) h
      | exit i=>cases h
   · cases htr
theorem sound (hm:P.follows .mixedOrders=true) (hT:Table P F) (hX:SimC P base X):∀ k,CodeOK P base F X k∧LoopOK P base F X k∧SimC P base (call F X k)
 | 0=>⟨fun n c ac bs e s C w a x e' s' _ _ _ _ _ h=>(by unfold exec at h;cases h),fun n c ac bs e s C w a x e' s' _ _ _ _ _ h=>(by unfold exec at h;cases h),fun f args s r s2 h=>(by unfold call at h;cases h)⟩
 | k+1=>by
  obtain⟨h1,h2,h3⟩:=sound hm hT hX k
  exact⟨code_step hm h1 h2 h3,loop_step h1 h2,call_step hT hX h1⟩
theorem call_ok (hm:P.follows .mixedOrders=true) (hT:Table P F) (hX:SimC P base X) {f args s r s2} (h:C F X f args s=some (r,s2)):Sim P base f args s r s2:=by
 obtain⟨n,hn⟩:=C_iff.1 h
 exact (sound hm hT hX n).2.2 f args s r s2 hn
end
end Go.Am
namespace Go.Am
open Go Go.RowKit
variable {P:Program}
mutual
def AV.full:AV→Bool
 | .b _|.i _ _|.s _|.nsl|.np|.nf|.nm=>true
 | .sl el xs=>!xs.isEmpty&&decide (0<el.size)&&AV.fullL xs
 | .agg cs=>AV.fullL cs
 | .tup cs=>AV.fullL cs
 | _=>false
def AV.fullL:List AV→Bool
 | []=>true
 | x::xs=>AV.full x&&AV.fullL xs
end
section
variable {C C':Cx} {w:World} (h:∀ b k,C.hc b=some k→0<k→C'.hc b=some k)
include h
mutual
theorem V_hc:∀ {x u},AV.full x=true→V C w x u→V C' w x u
 | .b x,u,_,hv=>hv
 | .i k n,u,_,hv=>hv
 | .s l,u,_,hv=>hv
 | .nsl,u,_,hv=>hv
 | .np,u,_,hv=>hv
 | .nf,u,_,hv=>hv
 | .nm,u,_,hv=>hv
 | .sl el xs,u,hf,hv=>by
  unfold AV.full at hf
  rw[Bool.and_eq_true,Bool.and_eq_true] at hf
  obtain⟨⟨f1,f2⟩,f3⟩:=hf
  unfold V at hv ⊢
  obtain⟨b,cap,k,us,q1,q2,q3,q4,q5,q6,q7,q8⟩:=hv
  refine⟨b,cap,k,us,q1,h b k q2 ?_,q3,q4,q5,q6,q7,VS_hc f3 q8⟩
  have h1:0<xs.length:=by cases xs with|nil=>cases f1|cons x xs=>simp
  have h2:0<el.size:=of_decide_eq_true f2
  have:=Nat.mul_pos h1 h2
  omega
 | .agg cs,u,hf,hv=>by
  unfold AV.full at hf
  unfold V at hv ⊢
  obtain⟨vs,q1,q2⟩:=hv
  exact⟨vs,q1,VL_hc hf q2⟩
 | .tup cs,u,hf,hv=>by
  unfold AV.full at hf
  unfold V at hv ⊢
  obtain⟨vs,q1,q2⟩:=hv
  exact⟨vs,q1,VT_hc hf q2⟩
 | .un,_,hf,_=>by cases hf
 | .os _ _ _,_,hf,_=>by cases hf
 | .ref _ _,_,hf,_=>by cases hf
 | .aref _ _,_,hf,_=>by cases hf
 | .ep _ _,_,hf,_=>by cases hf
 | .clo _ _,_,hf,_=>by cases hf
 | .mp _,_,hf,_=>by cases hf
theorem VL_hc:∀ {xs us},AV.fullL xs=true→VL C w xs us→VL C' w xs us
 | [],us,_,hv=>hv
 | x::xs,us,hf,hv=>by
  unfold AV.fullL at hf
  rw[Bool.and_eq_true] at hf
  unfold VL at hv ⊢
  obtain⟨u,us',q1,q2,q3,q4⟩:=hv
  exact⟨u,us',q1,q2,V_hc hf.1 q3,VL_hc hf.2 q4⟩
theorem VT_hc:∀ {xs us},AV.fullL xs=true→VT C w xs us→VT C' w xs us
 | [],us,_,hv=>hv
 | x::xs,us,hf,hv=>by
  unfold AV.fullL at hf
  rw[Bool.and_eq_true] at hf
  unfold VT at hv ⊢
  obtain⟨u,us',q1,q3,q4⟩:=hv
  exact⟨u,us',q1,V_hc hf.1 q3,VT_hc hf.2 q4⟩
theorem VS_hc {sz:Nat}:∀ {xs us},AV.fullL xs=true→VS C w sz xs us→VS C' w sz xs us
 | [],us,_,hv=>hv
 | x::xs,us,hf,hv=>by
  unfold AV.fullL at hf
  rw[Bool.and_eq_true] at hf
  unfold VS at hv ⊢
  obtain⟨u,us',q1,q2,q3,q4⟩:=hv
  exact⟨u,us',q1,q2,V_hc hf.1 q3,VS_hc hf.2 q4⟩
end
end
def S0:St:=⟨[],fun _=>none,0⟩
theorem Rel.more {base:Nat} {C:Cx} {s:St} {w w':World} {hc:Nat→Option Nat} (R:Rel base C s w) (hs:w.heap.size≤w'.heap.size) (hw:∀ k,k<w.heap.size→w'.heap[k]?=w.heap[k]?)
  (h1:∀ b,b<w.heap.size→hc b=C.hc b) (h2:∀ b h,hc b=some h→b<w'.heap.size):Rel base { C with hc:=hc } s w'∧Mv s.objs.length C w { C with hc:=hc } w':=by
 have M:Mv s.objs.length C w { C with hc:=hc } w':=⟨fun _ _ _ h=>h,fun _ _ h=>⟨h,rfl,rfl⟩,fun b h hb=>⟨by show hc b=_;rw[h1 b (R.hlt b h hb)];exact hb,fun k _=>cell_same (hw b (R.hlt b h hb)) k⟩⟩
 refine⟨⟨Nat.le_trans R.szb hs,fun r b h=>?_,fun a b h=>?_,h2,R.mm,R.aa,R.mx,fun r b h=>?_,fun a b h k=>?_,R.nx,fun r o b g1 g2=>?_,fun a cs b g1 g2=>?_,R.clo⟩,M⟩
 ·obtain⟨q1,q2,q3⟩:=R.mlt r b h;exact⟨q1,by omega,q3⟩
 ·obtain⟨q1,q2,q3⟩:=R.alt a b h;exact⟨q1,by omega,q3⟩
 ·show hc b=none;rw[h1 b (R.mlt r b h).2.1];exact R.mh r b h
 ·show hc b=none;rw[h1 b (R.alt a b h).2.1];exact R.ah a b h k
 ·exact OR_mv M (R.clo r o g1) (hw b (R.mlt r b g2).2.1) (R.obj r o b g1 g2)
 ·have q:=R.ar a cs b g1 g2
  exact AR_mv M (q.lowL (fun r b h=>(R.mlt r b h).1)) (hw b (R.alt a b g2).2.1) q
theorem ext_ok {F X} (hm:P.follows .mixedOrders=true) (hT:Table P F) (hX:∀ base,SimC P base X) {f args r s2} (h:C F X f args S0=some (r,s2)) (ha:AV.fullL args=true) (hr:AV.full r=true) (base:Nat) (s:St):Sim P base f args s r s:=by
 have hfn:=(call_ok (base:=0) hm hT (hX 0) h).1
 refine⟨hfn,fun C w us R hV=>?_⟩
 obtain⟨C0,hC0⟩:∃ C0:Cx,C0=⟨fun _=>none,fun _=>none,C.cp,C.az,fun b=>if b<w.heap.size then some ((C.hc b).getD 0) else none⟩:=⟨_,rfl⟩
 have R0:Rel w.heap.size C0 S0 w:=by
  subst hC0
  refine⟨Nat.le_refl _,(fun r b h=>nomatch h),(fun r b h=>nomatch h),fun b k h=>?_,(fun r r' b h=>nomatch h),(fun r r' b h=>nomatch h),(fun r r' b h=>nomatch h),(fun r b h=>nomatch h),(fun r b h=>nomatch h),fun _ _=>rfl,(fun r o b h=>by cases h),(fun r o b h=>by cases h),(fun r o h=>by cases h)⟩
  replace h:(if b<w.heap.size then some ((C.hc b).getD 0) else none)=some k:=h
  split at h
  ·assumption
  ·cases h
 have V0:VT C0 w args us:=VT_hc (fun b k hb hk=>by
  rw[hC0]
  show (if b<w.heap.size then some ((C.hc b).getD 0) else none)=some k
  rw[if_pos (R.hlt b k hb),hb];rfl) ha hV
 refine ((call_ok (base:=w.heap.size) hm hT (hX _) h).2 C0 w us R0 V0).mono ?_
 rintro e w' ⟨C',u,rfl,S,hu⟩
 have hw:∀ k,k<w.heap.size→w'.heap[k]?=w.heap[k]?:=S.be.block
 obtain⟨R2,M2⟩:=R.more (hc:=fun b=>if b<w.heap.size then C.hc b else C'.hc b) S.be.size hw (fun b hb=>if_pos hb) (fun b k hk=>by
  replace hk:(if b<w.heap.size then C.hc b else C'.hc b)=some k:=hk
  split at hk
  ·have:=S.be.size;omega
  ·exact S.rel.hlt b k hk)
 refine⟨_,u,rfl,⟨R2,M2,⟨S.be.os,S.be.tape,S.be.output,S.be.size,fun k hk=>hw k (by have:=R.szb;omega)⟩,Nat.le_refl _,fun _ _ h=>h,fun _ _ h=>h,Nat.le_refl _,fun _ _ h=>h⟩,V_hc (fun b k hb hk=>?_) hr hu⟩
 show (if b<w.heap.size then C.hc b else C'.hc b)=some k
 split
 ·rename_i hlt
  have h0:C0.hc b=some ((C.hc b).getD 0):=by rw[hC0];show (if b<w.heap.size then _ else _)=_;rw[if_pos hlt]
  have:=(S.mv.hc b _ h0).1
  rw[hb] at this
  injection this with this
  cases hcb:C.hc b with
  | none=>rw[hcb] at this;simp at this;omega
  | some q=>rw[hcb] at this;simp at this;rw[this]
 ·exact hb
noncomputable def extern (F:Nat→Option AFunc) (X:Nat→List AV→St→Option (AV × St)) (ex:Nat→Bool) (f:Nat) (args:List AV) (s:St):Option (AV × St) :=
 if ex f&&AV.fullL args then
  match C F X f args S0 with
  | some (r,_)=>if AV.full r then some (r,s) else none
  | none=>none
 else none
theorem extern_ok {F X ex} (hm:P.follows .mixedOrders=true) (hT:Table P F) (hX:∀ base,SimC P base X) (base:Nat):SimC P base (extern F X ex):=by
 intro f args s r s2 h
 unfold extern at h
 split at h
 ·rename_i h1
  rw[Bool.and_eq_true] at h1
  cases hc:C F X f args S0 with
  | none=>rw[hc] at h;cases h
  | some p =>
   obtain⟨r',s'⟩:=p
   rw[hc] at h
   dsimp only at h
   split at h
   ·rename_i h2
    injection h with h
    injection h with h3 h4
    subst h3 h4
    exact ext_ok hm hT hX hc h1.2 h2 base s
   ·cases h
 ·cases h
theorem extern_eq {F X ex f args r s2} (h:C F X f args S0=some (r,s2)) (he:ex f=true) (ha:AV.fullL args=true) (hr:AV.full r=true) (s:St):extern F X ex f args s=some (r,s):=by
 unfold extern
 rw[he,ha,h]
 dsimp only
 rw[if_pos (by rfl),if_pos hr]
end Go.Am
namespace Go.Am
open Go
def isX (f:Nat):Bool:=f==4||f==5||f==9||f==6
def F1 (f:Nat):Option AFunc:=if isX f then none else F0 f
noncomputable def X1 (f:Nat) (args:List AV) (s:St):Option (AV × St):=extern F0 X0 isX f args s
end Go.Am
namespace Go.Am
open Go
theorem fullL_map {α:Type} {f:α→AV}:∀ {l:List α},(∀ x∈l,(f x).full=true)→AV.fullL (l.map f)=true
 | [],_=>rfl
 | x::xs,h=>by
  rw[List.map_cons]
  unfold AV.fullL
  rw[h x (List.mem_cons_self ..),fullL_map (fun y hy=>h y (List.mem_cons_of_mem _ hy))]
  rfl
theorem lst_full {el:El} {xs:List AV} (h:0<el.size):(lst el xs).full=AV.fullL xs:=by
 cases xs with
 | nil=>rfl
 | cons x xs =>
  show (!(x::xs).isEmpty&&decide (0<el.size)&&AV.fullL (x::xs))=_
  rw[decide_eq_true h];rfl
theorem lst_full1 {xs:List AV}:(lst .one xs).full=AV.fullL xs:=lst_full (by decide)
theorem lst_fullk {k:Nat} {xs:List AV}:(lst (.st (k+1)) xs).full=AV.fullL xs:=lst_full (Nat.succ_pos _)
theorem fullL_strs {l:List Str}:AV.fullL (strs l)=true:=fullL_map (fun _ _=>rfl)
mutual
theorem Ty.full:∀ t:Ty,t.av.full=true
 | .mk k n nm as=>by unfold Ty.av;simp[AV.full,AV.fullL,El.size,lst_full1,lst_fullk,El.size,Ty.fulls as]
theorem Ty.fulls:∀ l:List Ty,AV.fullL (Ty.avs l)=true
 | []=>rfl
 | x::xs=>by unfold Ty.avs AV.fullL;rw[x.full,Ty.fulls xs];rfl
end
mutual
theorem Pat.full:∀ t:Pat,t.av.full=true
 | .mk k nm n as l c=>by unfold Pat.av;simp[AV.full,AV.fullL,El.size,lst_full1,lst_fullk,El.size,Pat.fulls as]
theorem Pat.fulls:∀ l:List Pat,AV.fullL (Pat.avs l)=true
 | []=>rfl
 | x::xs=>by unfold Pat.avs AV.fullL;rw[x.full,Pat.fulls xs];rfl
end
theorem fullL_app:∀ {xs ys:List AV},AV.fullL (xs++ys)=(AV.fullL xs&&AV.fullL ys)
 | [],ys=>rfl
 | x::xs,ys=>by show (x.full&&AV.fullL (xs++ys))=_;rw[fullL_app];show _=(x.full&&AV.fullL xs&&AV.fullL ys);rw[Bool.and_assoc]
theorem Pat.fullc (t:Pat):AV.fullL t.av.cells=true:=by have:=t.full;rw[Pat.av_eq] at this ⊢;exact this
mutual
theorem Xp.full:∀ e:Xp,e.av.full=true
 | .app a b l c=>by unfold Xp.av;simp[AV.full,AV.fullL,El.size,a.full,b.full]
 | .row a ops=>by unfold Xp.av;simp[AV.full,AV.fullL,El.size,a.full,lst_full1,lst_fullk,El.size,Rop.fullx ops,Rop.fullb ops]
 | .gen k nm n ps as al bs l c=>by unfold Xp.av;simp[AV.full,AV.fullL,El.size,lst_full1,lst_fullk,El.size,fullL_strs,Xp.fulls as,Alt.fulls al,Bnd.fulls bs]
theorem Xp.fulls:∀ l:List Xp,AV.fullL (Xp.avs l)=true
 | []=>rfl
 | x::xs=>by unfold Xp.avs AV.fullL;rw[x.full,Xp.fulls xs];rfl
theorem Rop.fullx:∀ l:List Rop,AV.fullL (Rop.xs l)=true
 | []=>rfl
 | .mk _ _ _ x::xs=>by unfold Rop.xs AV.fullL;rw[x.full,Rop.fullx xs];rfl
theorem Rop.fullb:∀ l:List Rop,AV.fullL (Rop.bs l)=true
 | []=>rfl
 | .mk _ _ _ x::xs=>by unfold Rop.bs AV.fullL;rw[Rop.fullb xs];rfl
theorem Rhs.full:∀ r:Rhs,r.av.full=true
 | .mk g b=>by
  have h:AV.fullL b.av.cells=true:=by have:=b.full;rw[Xp.av_eq] at this ⊢;exact this
  unfold Rhs.av;simp[AV.full,AV.fullL,El.size,lst_full1,lst_fullk,El.size,Xp.fulls g,h]
theorem Rhs.fulls:∀ l:List Rhs,AV.fullL (Rhs.avs l)=true
 | []=>rfl
 | x::xs=>by unfold Rhs.avs AV.fullL;rw[x.full,Rhs.fulls xs];rfl
theorem Alt.full:∀ r:Alt,r.av.full=true
 | .mk p r=>by unfold Alt.av;simp[AV.full,AV.fullL,El.size,fullL_app,p.fullc,lst_full1,lst_fullk,El.size,Rhs.fulls r]
theorem Alt.fulls:∀ l:List Alt,AV.fullL (Alt.avs l)=true
 | []=>rfl
 | x::xs=>by unfold Alt.avs AV.fullL;rw[x.full,Alt.fulls xs];rfl
theorem Clause.full:∀ r:Clause,r.av.full=true
 | .mk p r=>by unfold Clause.av;simp[AV.full,AV.fullL,El.size,Pat.fulls p,lst_full1,lst_fullk,El.size,Rhs.fulls r]
theorem Clause.fulls:∀ l:List Clause,AV.fullL (Clause.avs l)=true
 | []=>rfl
 | x::xs=>by unfold Clause.avs AV.fullL;rw[x.full,Clause.fulls xs];rfl
theorem Bnd.full:∀ r:Bnd,r.av.full=true
 | .mk nm cl cs l c=>by unfold Bnd.av;simp[AV.full,AV.fullL,El.size,cl.full,Clause.fulls cs]
theorem Bnd.fulls:∀ l:List Bnd,AV.fullL (Bnd.avs l)=true
 | []=>rfl
 | x::xs=>by unfold Bnd.avs AV.fullL;rw[x.full,Bnd.fulls xs];rfl
end
theorem Constr.full (c:Constr):c.av.full=true:=by unfold Constr.av;simp[AV.full,AV.fullL,El.size,lst_full1,lst_fullk,Ty.fulls c.fields]
theorem Data.full (d:Data):d.av.full=true:=by
 have h:AV.fullL (d.cons.map Constr.av)=true:=fullL_map fun c _=>c.full
 unfold Data.av;simp[AV.full,AV.fullL,El.size,lst_full1,lst_fullk,fullL_strs,h]
theorem FixT.full (f:FixT):f.av.full=true:=(rfl)
theorem Prog.full (p:Prog):p.av.full=true:=by
 have h1:AV.fullL (p.datas.map Data.av)=true:=fullL_map fun c _=>c.full
 have h2:AV.fullL (p.fixes.map FixT.av)=true:=fullL_map fun c _=>c.full
 have h3:AV.fullL (p.binds.map Bnd.av)=true:=fullL_map fun c _=>c.full
 unfold Prog.av;simp[AV.full,AV.fullL,El.size,lst_full1,lst_fullk,h1,h2,h3]
end Go.Am
namespace Tarjan
abbrev Fn:=Int→Int
def upd (f:Fn) (k v:Int):Fn:=fun x=>if x=k then v else f x
theorem upd_eq (f:Fn) (k v:Int):upd f k v k=v:=if_pos rfl
theorem upd_ne (f:Fn) {k x:Int} (v:Int) (h:x≠k):upd f k v x=f x:=if_neg h
structure S where
 o:Fn
 lw:Fn
 gr:Fn
 op:List Int
 nx:Int
 mn:Int
abbrev Fr:=List (Int × List Int)
def enter (s:S) (k:Int):S:=⟨upd s.o k (s.nx+1),upd s.lw k (s.nx+1),s.gr,k::s.op,s.nx+1,s.mn⟩
def above (k:Int):List Int→List Int
 | []=>[]
 | x::l=>if x=k then [] else x::above k l
def below (k:Int):List Int→List Int
 | []=>[]
 | x::l=>if x=k then l else below k l
def close (s:S) (k:Int):S:=⟨s.o,s.lw,fun x=>if x=k∨x∈above k s.op then s.mn else s.gr x,below k s.op,s.nx,s.mn+1⟩
def leave (s:S) (k:Int):S:=if s.lw k=s.o k then close s k else s
def low (s:S) (k v:Int):S:=⟨s.o,upd s.lw k (min (s.lw k) v),s.gr,s.op,s.nx,s.mn⟩
def step (U:Int→List Int) (s:S):Fr→S × Fr
 | []=>(s,[])
 | (t,to::r)::fs=>if s.o to=0 then (enter s to,(to,U to)::(t,r)::fs) else if to∈s.op then (low s t (s.o to),(t,r)::fs) else (s,(t,r)::fs)
 | (t,[])::[]=>(leave s t,[])
 | (t,[])::(u,r)::fs=>(leave (low s u (s.lw t)) t,(u,r)::fs)
theorem above_app (k:Int):∀ (a l:List Int),k∉a→above k (a++k::l)=a∧below k (a++k::l)=l
 | [],l,_=>by simp[above,below]
 | x::a,l,h=>by
  have hx:x≠k:=fun e=>h (by simp[e])
  obtain⟨h1,h2⟩:=above_app k a l (fun hm=>h (List.mem_cons_of_mem _ hm))
  simp[above,below,hx,h1,h2]
def Seen (s:S) (t to:Int):Prop:=s.o to≠0∧(to∈s.op→s.lw t≤s.o to)
inductive Seg (U:Int→List Int) (s:S):Fr→List Int→Prop
 | nil:Seg U s [] []
 | cons {t:Int} {r:List Int} {fs:Fr} {a rest pre:List Int}:Seg U s fs rest→(∀ v∈a,∀ to∈U v,Seen s t to)→U t=pre++r→(∀ to∈pre,Seen s t to)→Seg U s ((t,r)::fs) (a++t::rest)
def Closed (s:S) (v:Int):Prop:=s.o v≠0∧v∉s.op
structure Inv (U:Int→List Int) (n:Int) (b B:Int) (s:S) (fs:Fr):Prop where
 seg:Seg U s fs s.op
 dec:s.op.Pairwise (fun x y=>s.o y<s.o x)
 lo:∀ x∈s.op,B≤s.o x∧0<s.o x
 hi:∀ x,0≤s.o x∧s.o x≤s.nx
 fr:∀ f∈fs,B≤s.lw f.1∧s.lw f.1≤s.o f.1
 bot:fs≠[]→(∃ a,s.op=a++[b])∧s.o b=B
 rng:∀ x,s.o x≠0→0≤x∧x<n
 cl:∀ v,Closed s v→0≤s.gr v∧s.gr v<s.mn∧∀ to∈U v,Closed s to∧s.gr to≤s.gr v
 ne:∀ g,0≤g→g<s.mn→∃ v,Closed s v∧s.gr v=g
 mn0:0≤s.mn
theorem Seg.mono {U:Int→List Int} {s s':S} {fs:Fr} {l:List Int} (h:Seg U s fs l) (hs:∀ f∈fs,∀ v,Seen s f.1 v→Seen s' f.1 v):Seg U s' fs l:=by
 induction h with
 | nil=>exact Seg.nil
 | @cons t r fs a rest pre _ h1 h2 h3 ih =>
  exact Seg.cons (ih (fun f hf=>hs f (List.mem_cons_of_mem _ hf))) (fun v hv to ho=>hs (t,r) (by simp) _ (h1 v hv to ho)) h2 (fun to ho=>hs (t,r) (by simp) _ (h3 to ho))
theorem Seg.uses {U:Int→List Int} {s:S} {F:Fr} {l:List Int} (h:Seg U s F l):∀ t r fs,F=(t,r)::fs→∃ pre,U t=pre++r:=by
 cases h with
 | nil=>intro t r fs e;cases e
 | @cons t' r' fs' a rest pre h1 h2 h3 h4 =>
  intro t r fs e
  injection e with e1 e2
  injection e1 with e3 e4
  subst e3
  subst e4
  exact⟨pre,h3⟩
theorem Seg.frame_mem {U:Int→List Int} {s:S} {fs:Fr} {l:List Int} (h:Seg U s fs l):∀ f∈fs,f.1∈l:=by
 induction h with
 | nil=>intro f hf;cases hf
 | @cons t r fs a rest pre _ h1 h2 h3 ih =>
  intro f hf
  rcases List.mem_cons.1 hf with rfl|hf
  ·simp
  ·exact List.mem_append_right _ (List.mem_cons_of_mem _ (ih f hf))
section
variable {U:Int→List Int} {n b B:Int} (hU:∀ v,∀ to∈U v,0≤to∧to<n)
include hU
theorem inv_visit {s:S} {t to:Int} {r:List Int} {fs:Fr} (I:Inv U n b B s ((t,to::r)::fs)) (h0:s.o to=0):Inv U n b B (enter s to) ((to,U to)::(t,r)::fs):=by
 have hmem:=I.seg.frame_mem
 have hno:to∉s.op:=fun hm=>by have:=(I.lo to hm).2;omega
 have hne:∀ x∈s.op,x≠to:=fun x hx e=>hno (e▸hx)
 have ho:∀ x,x≠to→(enter s to).o x=s.o x:=fun x hx=>upd_ne _ _ hx
 have hlw:∀ x,x≠to→(enter s to).lw x=s.lw x:=fun x hx=>upd_ne _ _ hx
 have hot:(enter s to).o to=s.nx+1:=upd_eq _ _ _
 have hnx:=(I.hi to).2
 have hB:B≤s.nx:=by
  have:=I.fr (t,to::r) (by simp)
  have:=(I.hi t).2
  simp only at *
  omega
 have hseen:∀ f∈(t,to::r)::fs,∀ v,Seen s f.1 v→Seen (enter s to) f.1 v:=fun f hf v hv=>by
  have hf1:=hne _ (hmem f hf)
  by_cases hv1:v=to
  ·exact absurd (hv1▸h0) hv.1
  ·refine⟨by rw[ho v hv1];exact hv.1,fun hm=>?_⟩
   rw[hlw _ hf1,ho v hv1]
   rcases List.mem_cons.1 hm with h|h
   ·exact absurd h hv1
   ·exact hv.2 h
 have hto:Seen (enter s to) t to:=⟨by rw[hot];have:=(I.hi to).1;omega,fun _=>by
  have h1:=I.fr (t,to::r) (by simp)
  have h2:=(I.hi t).2
  rw[hot,hlw t (hne t (hmem (t,to::r) (by simp)))]
  simp only at h1
  omega⟩
 have hclo:∀ v,Closed (enter s to) v→Closed s v:=fun v hv=>by
  have hv1:v≠to:=fun e=>hv.2 (e▸List.mem_cons_self ..)
  exact⟨by have:=hv.1;rwa [ho v hv1] at this,fun hm=>hv.2 (List.mem_cons_of_mem _ hm)⟩
 have hclo2:∀ v,Closed s v→Closed (enter s to) v:=fun v hv=>by
  have hv1:v≠to:=fun e=>hv.1 (e▸h0)
  refine⟨by rw[ho v hv1];exact hv.1,fun hm=>?_⟩
  rcases List.mem_cons.1 hm with h|h
  ·exact hv1 h
  ·exact hv.2 h
 refine⟨?_,?_,?_,?_,?_,?_,?_,?_,?_,I.mn0⟩
 ·have hs:=I.seg
  generalize hop:s.op=L at hs
  have:Seg U (enter s to) ((t,r)::fs) L:=by
   cases hs with
   | @cons _ _ _ a rest pre h1 h2 h3 h4 =>
    refine Seg.cons (pre:=pre++[to]) (h1.mono (fun f hf=>hseen f (List.mem_cons_of_mem _ hf))) (fun v hv x hx=>hseen (t,to::r) (by simp) _ (h2 v hv x hx)) (by rw[h3];simp) (fun x hx=>?_)
    rcases List.mem_append.1 hx with hx|hx
    ·exact hseen (t,to::r) (by simp) _ (h4 x hx)
    ·rw[List.mem_singleton.1 hx];exact hto
  show Seg U (enter s to) ((to,U to)::(t,r)::fs) (to::s.op)
  rw[hop]
  exact Seg.cons (a:=[]) (pre:=[]) this (fun v hv=>by cases hv) rfl (fun x hx=>by cases hx)
 ·show (to::s.op).Pairwise _
  refine List.pairwise_cons.2 ⟨fun x hx=>by rw[hot,ho x (hne x hx)];have:=(I.hi x).2;omega,?_⟩
  refine I.dec.imp_of_mem (fun {x y} hx hy h=>?_)
  rw[ho x (hne x hx),ho y (hne y hy)];exact h
 ·intro x hx
  rcases List.mem_cons.1 hx with rfl|hx
  ·rw[hot];have:=(I.hi x).1;omega
  ·rw[ho x (hne x hx)];exact I.lo x hx
 ·intro x
  by_cases hx:x=to
  ·subst hx;rw[hot];exact⟨by omega,Int.le_refl _⟩
  ·rw[ho x hx];have:=I.hi x;exact⟨this.1,by show s.o x≤s.nx+1;omega⟩
 ·intro f hf
  rcases List.mem_cons.1 hf with rfl|hf
  ·show B≤upd _ _ _ _∧upd _ _ _ _≤upd _ _ _ _
   rw[upd_eq,upd_eq];omega
  ·rcases List.mem_cons.1 hf with rfl|hf
   ·have h1:=hne _ (hmem (t,to::r) (by simp))
    rw[hlw _ h1,ho _ h1];exact I.fr (t,to::r) (by simp)
   ·have h1:=hne _ (hmem f (List.mem_cons_of_mem _ hf))
    rw[hlw _ h1,ho _ h1];exact I.fr f (List.mem_cons_of_mem _ hf)
 ·intro _
  obtain⟨⟨a,ha⟩,hb⟩:=I.bot (by simp)
  have hbm:b∈s.op:=by rw[ha];simp
  exact⟨⟨to::a,by show to::s.op=_;rw[ha];rfl⟩,by rw[ho b (hne b hbm)];exact hb⟩
 ·intro x hx
  by_cases hxt:x=to
  ·obtain⟨pre,h3⟩:=I.seg.uses t (to::r) fs rfl
   exact hxt▸hU t to (by rw[h3];simp)
  ·rw[ho x hxt] at hx;exact I.rng x hx
 ·intro v hv
  obtain⟨h1,h2,h3⟩:=I.cl v (hclo v hv)
  exact⟨h1,h2,fun x hx=>⟨hclo2 x (h3 x hx).1,(h3 x hx).2⟩⟩
 ·intro g h1 h2
  obtain⟨v,hv,hg⟩:=I.ne g h1 h2
  exact⟨v,hclo2 v hv,hg⟩
omit hU in
theorem inv_back {s:S} {t to:Int} {r:List Int} {fs:Fr} (I:Inv U n b B s ((t,to::r)::fs)) (h0:s.o to≠0) (hm:to∈s.op):Inv U n b B (low s t (s.o to)) ((t,r)::fs):=by
 have hle:∀ x,(low s t (s.o to)).lw x≤s.lw x:=fun x=>by
  show upd _ _ _ x≤_
  by_cases hx:x=t
  ·subst hx;rw[upd_eq];omega
  ·rw[upd_ne _ _ hx];exact Int.le_refl _
 have hseen:∀ f v,Seen s f v→Seen (low s t (s.o to)) f v:=fun f v hv=>⟨hv.1,fun hm=>Int.le_trans (hle f) (hv.2 hm)⟩
 refine⟨?_,I.dec,I.lo,I.hi,?_,fun _=>I.bot (by simp),I.rng,I.cl,I.ne,I.mn0⟩
 ·have hs:=I.seg
  show Seg U (low s t (s.o to)) ((t,r)::fs) s.op
  generalize hop:s.op=L at hs
  cases hs with
  | @cons _ _ _ a rest pre h1 h2 h3 h4 =>
   refine Seg.cons (pre:=pre++[to]) (h1.mono (fun f _=>hseen f.1)) (fun v hv x hx=>hseen _ _ (h2 v hv x hx)) (by rw[h3];simp) (fun x hx=>?_)
   rcases List.mem_append.1 hx with hx|hx
   ·exact hseen _ _ (h4 x hx)
   ·rw[List.mem_singleton.1 hx]
    exact⟨h0,fun _=>by show upd _ _ _ t≤s.o to;rw[upd_eq];omega⟩
 ·intro f hf
  have hB:=(I.lo to hm).1
  have key:B≤s.lw f.1∧s.lw f.1≤s.o f.1:=by
   rcases List.mem_cons.1 hf with rfl|hf
   ·exact I.fr (t,to::r) (by simp)
   ·exact I.fr f (List.mem_cons_of_mem _ hf)
  refine⟨?_,Int.le_trans (hle f.1) key.2⟩
  show B≤upd _ _ _ f.1
  by_cases hx:f.1=t
  ·rw[hx,upd_eq];rw[hx] at key;omega
  ·rw[upd_ne _ _ hx];exact key.1
omit hU in
theorem inv_past {s:S} {t to:Int} {r:List Int} {fs:Fr} (I:Inv U n b B s ((t,to::r)::fs)) (h0:s.o to≠0) (hm:to∉s.op):Inv U n b B s ((t,r)::fs):=by
 refine⟨?_,I.dec,I.lo,I.hi,?_,fun _=>I.bot (by simp),I.rng,I.cl,I.ne,I.mn0⟩
 ·have hs:=I.seg
  generalize hop:s.op=L at hs
  cases hs with
  | @cons _ _ _ a rest pre h1 h2 h3 h4 =>
   refine Seg.cons (pre:=pre++[to]) h1 h2 (by rw[h3];simp) (fun x hx=>?_)
   rcases List.mem_append.1 hx with hx|hx
   ·exact h4 x hx
   ·rw[List.mem_singleton.1 hx]
    exact⟨h0,fun h=>absurd h hm⟩
 ·intro f hf
  rcases List.mem_cons.1 hf with rfl|hf
  ·exact I.fr (t,to::r) (by simp)
  ·exact I.fr f (List.mem_cons_of_mem _ hf)
omit hU in
theorem inv_close {s:S} {t:Int} {fs:Fr} {a rest:List Int} (hop:s.op=a++t::rest) (hseg:Seg U s fs rest) (h2:∀ v∈a,∀ to∈U v,Seen s t to) (h4:∀ to∈U t,Seen s t to)
  (dec:s.op.Pairwise (fun x y=>s.o y<s.o x)) (lo:∀ x∈s.op,B≤s.o x∧0<s.o x) (hi:∀ x,0≤s.o x∧s.o x≤s.nx) (fr:∀ f∈fs,B≤s.lw f.1∧s.lw f.1≤s.o f.1) (bot:fs≠[]→(∃ c,rest=c++[b])∧s.o b=B)
  (rng:∀ x,s.o x≠0→0≤x∧x<n) (cl:∀ v,Closed s v→0≤s.gr v∧s.gr v<s.mn∧∀ to∈U v,Closed s to∧s.gr to≤s.gr v) (ne:∀ g,0≤g→g<s.mn→∃ v,Closed s v∧s.gr v=g) (mn0:0≤s.mn) (hlw:s.lw t=s.o t):Inv U n b B (close s t) fs:=by
 rw[hop] at dec
 obtain⟨d1,d2,d3⟩:=List.pairwise_append.1 dec
 obtain⟨d4,d5⟩:=List.pairwise_cons.1 d2
 have hta:t∉a:=fun h=>by have:=d3 t h t (by simp);omega
 obtain⟨ha,hb⟩:=above_app t a rest hta
 have hop2:(close s t).op=rest:=by show below t s.op=rest;rw[hop,hb]
 have hgr:∀ x,(close s t).gr x=if x=t∨x∈a then s.mn else s.gr x:=fun x=>by show (if x=t∨x∈above t s.op then s.mn else s.gr x)=_;rw[hop,ha]
 have hsub:∀ x∈rest,x∈s.op:=fun x hx=>by rw[hop];exact List.mem_append_right _ (List.mem_cons_of_mem _ hx)
 have hseen:∀ f v,Seen s f v→Seen (close s t) f v:=fun f v hv=>⟨hv.1,fun hm=>hv.2 (hsub v (hop2▸hm))⟩
 have hnew:∀ x,x=t∨x∈a→Closed (close s t) x:=fun x hx=>by
  have hxo:x∈s.op:=by
   rw[hop]
   rcases hx with rfl|hx
   ·simp
   ·exact List.mem_append_left _ hx
  refine⟨by have:=(lo x hxo).2;show s.o x≠0;omega,fun hm=>?_⟩
  rw[hop2] at hm
  rcases hx with rfl|hx
  ·have:=d4 x hm;omega
  ·have:=d3 x hx x (List.mem_cons_of_mem _ hm);omega
 have hold:∀ x,Closed s x→Closed (close s t) x:=fun x hx=>⟨hx.1,fun hm=>hx.2 (hsub x (hop2▸hm))⟩
 have hold2:∀ x,Closed s x→¬ (x=t∨x∈a):=fun x hx h=>hx.2 (by
  rw[hop]
  rcases h with rfl|h
  ·simp
  ·exact List.mem_append_left _ h)
 have huse:∀ to,Seen s t to→Closed (close s t) to∧(close s t).gr to≤s.mn:=fun to h=>by
  by_cases hm:to∈s.op
  ·have h1:=h.2 hm
   have h2:to=t∨to∈a:=by
    rw[hop] at hm
    rcases List.mem_append.1 hm with hm|hm
    ·exact Or.inr hm
    ·rcases List.mem_cons.1 hm with hm|hm
     ·exact Or.inl hm
     ·have:=d4 to hm;omega
   exact⟨hnew to h2,by rw[hgr,if_pos h2];exact Int.le_refl _⟩
  ·have hc:Closed s to:=⟨h.1,hm⟩
   exact⟨hold to hc,by rw[hgr,if_neg (hold2 to hc)];have:=(cl to hc).2.1;omega⟩
 refine⟨?_,?_,?_,hi,fr,?_,rng,?_,?_,by show 0≤s.mn+1;omega⟩
 ·rw[hop2];exact hseg.mono (fun f _=>hseen f.1)
 ·rw[hop2];exact d5
 ·rw[hop2];exact fun x hx=>lo x (hsub x hx)
 ·rw[hop2];exact bot
 ·intro v hv
  by_cases hva:v=t∨v∈a
  ·rw[hgr,if_pos hva]
   refine⟨mn0,by show s.mn<s.mn+1;omega,fun to ho=>huse to ?_⟩
   rcases hva with rfl|hva
   ·exact h4 to ho
   ·exact h2 v hva to ho
  ·have hc:Closed s v:=⟨hv.1,fun hm=>by
    rw[hop] at hm
    rcases List.mem_append.1 hm with hm|hm
    ·exact hva (Or.inr hm)
    ·rcases List.mem_cons.1 hm with hm|hm
     ·exact hva (Or.inl hm)
     ·exact hv.2 (by rw[hop2];exact hm)⟩
   rw[hgr,if_neg hva]
   obtain⟨q1,q2,q3⟩:=cl v hc
   refine⟨q1,by show s.gr v<s.mn+1;omega,fun to ho=>?_⟩
   obtain⟨q4,q5⟩:=q3 to ho
   exact⟨hold to q4,by rw[hgr,if_neg (hold2 to q4)];exact q5⟩
 ·intro g h1 h2
  by_cases hg:g=s.mn
  ·exact⟨t,hnew t (Or.inl rfl),by rw[hgr,if_pos (Or.inl rfl),hg]⟩
  ·have:g<s.mn:=by have:g<s.mn+1:=h2;omega
   obtain⟨v,hv,he⟩:=ne g h1 this
   exact⟨v,hold v hv,by rw[hgr,if_neg (hold2 v hv)];exact he⟩
omit hU in
theorem inv_pop {s:S} {t u:Int} {r:List Int} {fs:Fr} (I:Inv U n b B s ((t,[])::(u,r)::fs)):Inv U n b B (leave (low s u (s.lw t)) t) ((u,r)::fs):=by
 have hs:=I.seg
 generalize hop:s.op=L at hs
 cases hs with
 | @cons _ _ _ a rest pre h1 h2 h3 h4 =>
  rw[List.append_nil] at h3
  have hdec:=I.dec
  rw[hop] at hdec
  obtain⟨d1,d2,d3⟩:=List.pairwise_append.1 hdec
  obtain⟨d4,d5⟩:=List.pairwise_cons.1 d2
  have hum:=h1.frame_mem (u,r) (by simp)
  have hut:u≠t:=fun e=>by have:=d4 u hum;rw[e] at this;omega
  have hle:∀ x,(low s u (s.lw t)).lw x≤s.lw x:=fun x=>by
   show upd _ _ _ x≤_
   by_cases hx:x=u
   ·subst hx;rw[upd_eq];omega
   ·rw[upd_ne _ _ hx];exact Int.le_refl _
  have hlt:(low s u (s.lw t)).lw t=s.lw t:=upd_ne _ _ (fun e=>hut e.symm)
  have hlu:(low s u (s.lw t)).lw u≤s.lw t:=by show upd _ _ _ u≤_;rw[upd_eq];omega
  have hseen:∀ f v,Seen s f v→Seen (low s u (s.lw t)) f v:=fun f v hv=>⟨hv.1,fun hm=>Int.le_trans (hle f) (hv.2 hm)⟩
  have hfr:∀ f∈(u,r)::fs,B≤(low s u (s.lw t)).lw f.1∧(low s u (s.lw t)).lw f.1≤s.o f.1:=fun f hf=>by
   have k1:=I.fr f (List.mem_cons_of_mem _ hf)
   have k2:=(I.fr (t,[]) (by simp)).1
   refine⟨?_,Int.le_trans (hle f.1) k1.2⟩
   show B≤upd _ _ _ f.1
   by_cases hx:f.1=u
   ·rw[hx,upd_eq];rw[hx] at k1;simp only at k2;omega
   ·rw[upd_ne _ _ hx];exact k1.1
  obtain⟨⟨c,hc⟩,hbB⟩:=I.bot (by simp)
  have hbot:∃ c,rest=c++[b]:=by
   rw[hop] at hc
   have hne:rest≠[]:=fun e=>by rw[e] at hum;cases hum
   obtain⟨c',x,hx⟩:∃ c' x,rest=c'++[x]:=⟨_,_,(List.dropLast_concat_getLast hne).symm⟩
   rw[hx,show a++t::(c'++[x])=(a++t::c')++[x] by simp] at hc
   have:=List.append_inj_right' hc rfl
   exact⟨c',by rw[hx,this]⟩
  unfold leave
  by_cases hl:(low s u (s.lw t)).lw t=(low s u (s.lw t)).o t
  ·rw[if_pos hl]
   exact inv_close (s:=low s u (s.lw t)) (a:=a) (rest:=rest) hop (h1.mono (fun f _=>hseen f.1)) (fun v hv x hx=>hseen _ _ (h2 v hv x hx)) (fun x hx=>hseen _ _ (h4 x (h3▸hx))) I.dec I.lo I.hi hfr (fun _=>⟨hbot,hbB⟩) I.rng I.cl I.ne I.mn0 hl
  ·rw[if_neg hl]
   refine⟨?_,I.dec,I.lo,I.hi,hfr,fun _=>⟨⟨c,hc⟩,hbB⟩,I.rng,I.cl,I.ne,I.mn0⟩
   show Seg U (low s u (s.lw t)) ((u,r)::fs) s.op
   rw[hop]
   cases h1 with
   | @cons _ _ _ a' rest' pre' g1 g2 g3 g4 =>
    have e:a++t::(a'++u::rest')=(a++t::a')++u::rest':=by simp
    have hup:∀ v,Seen s t v→Seen (low s u (s.lw t)) u v:=fun v hv=>⟨hv.1,fun hm=>Int.le_trans hlu (hv.2 hm)⟩
    rw[e]
    refine Seg.cons (pre:=pre') (g1.mono (fun f _=>hseen f.1)) (fun v hv x hx=>?_) g3 (fun x hx=>hseen _ _ (g4 x hx))
    rcases List.mem_append.1 hv with hv|hv
    ·exact hup x (h2 v hv x hx)
    ·rcases List.mem_cons.1 hv with rfl|hv
     ·exact hup x (h4 x (h3▸hx))
     ·exact hseen _ _ (g2 v hv x hx)
omit hU in
theorem inv_last {s:S} {t:Int} (I:Inv U n b B s [(t,[])]):Inv U n b B (leave s t) []∧(leave s t).op=[]:=by
 have hs:=I.seg
 generalize hop:s.op=L at hs
 cases hs with
 | @cons _ _ _ a rest pre h1 h2 h3 h4 =>
  cases h1
  rw[List.append_nil] at h3
  obtain⟨⟨c,hc⟩,hbB⟩:=I.bot (by simp)
  rw[hop] at hc
  have hb:t=b:=by have:=List.append_inj_right' hc rfl;simpa using this
  have hl:s.lw t=s.o t:=by
   have:=I.fr (t,[]) (by simp)
   rw[←hb] at hbB
   simp only at this
   omega
  unfold leave
  rw[if_pos hl]
  have hI:=inv_close (U:=U) (n:=n) (b:=b) (B:=B) (s:=s) (a:=a) (rest:=[]) hop Seg.nil (fun v hv x hx=>h2 v hv x hx) (fun x hx=>h4 x (h3▸hx)) I.dec I.lo I.hi (fun f hf=>by cases hf) (fun h=>absurd rfl h) I.rng I.cl I.ne I.mn0 hl
  refine⟨hI,?_⟩
  have hseg:=hI.seg
  generalize hq:(close s t).op=q at hseg
  cases hseg
  rfl
end
end Tarjan
namespace Tarjan
def unv (U:Int→List Int) (s:S):Nat→Nat
 | 0=>0
 | m+1=>unv U s m+(if s.o (m:Int)=0 then (U (m:Int)).length+2 else 0)
def frs:Fr→Nat
 | []=>0
 | f::fs=>f.2.length+1+frs fs
def mu (U:Int→List Int) (N:Nat) (s:S) (fs:Fr):Nat:=unv U s N+frs fs
theorem unv_same (U:Int→List Int) {s s':S} (h:s'.o=s.o):∀ m,unv U s' m=unv U s m
 | 0=>rfl
 | m+1=>by unfold unv;rw[unv_same U h m,h]
theorem unv_visit (U:Int→List Int) (s s':S) (to:Int) (c:Int) (hc:c≠0) (h:s'.o=upd s.o to c) (h0:s.o to=0):∀ m:Nat,unv U s' m+(if 0≤to∧to<m then (U to).length+2 else 0)=unv U s m
 | 0=>by rw[if_neg (by omega)];rfl
 | m+1=>by
  have ih:=unv_visit U s s' to c hc h h0 m
  unfold unv
  by_cases hm:to=(m:Int)
  ·subst hm
   rw[if_neg (by omega)] at ih
   have e:s'.o (m:Int)≠0:=by rw[h,upd_eq];exact hc
   rw[if_neg e,if_pos h0,if_pos (show 0≤(m:Int)∧(m:Int)<((m+1:Nat):Int) by omega)]
   omega
  ·have e:s'.o (m:Int)=s.o (m:Int):=by rw[h,upd_ne _ _ (fun e=>hm e.symm)]
   rw[e]
   by_cases hr:0≤to∧to<(m:Int)
   ·rw[if_pos hr] at ih
    rw[if_pos (show 0≤to∧to<((m+1:Nat):Int) by omega)]
    omega
   ·rw[if_neg hr] at ih
    rw[if_neg (show ¬ (0≤to∧to<((m+1:Nat):Int)) by omega)]
    omega
theorem leave_o (s:S) (k:Int):(leave s k).o=s.o:=by unfold leave;split<;>rfl
theorem step_ok {U:Int→List Int} {N:Nat} {b B:Int} (hU:∀ v,∀ to∈U v,0≤to∧to<(N:Int)) {s:S} {f:Int × List Int} {fs:Fr} (I:Inv U N b B s (f::fs)) :
  Inv U N b B (step U s (f::fs)).1 (step U s (f::fs)).2∧mu U N (step U s (f::fs)).1 (step U s (f::fs)).2+1≤mu U N s (f::fs):=by
 obtain⟨t,r⟩:=f
 cases r with
 | nil =>
  cases fs with
  | nil =>
   refine⟨(inv_last I).1,?_⟩
   show unv U (leave s t) N+0+1≤unv U s N+(0+1+0)
   rw[unv_same U (leave_o s t)]
   omega
  | cons g fs =>
   obtain⟨u,r⟩:=g
   refine⟨inv_pop I,?_⟩
   show unv U (leave (low s u (s.lw t)) t) N+frs ((u,r)::fs)+1≤unv U s N+(0+1+frs ((u,r)::fs))
   rw[unv_same U (leave_o _ t),unv_same U (show (low s u (s.lw t)).o=s.o from rfl)]
   omega
 | cons to r =>
  by_cases h0:s.o to=0
  ·have e:step U s ((t,to::r)::fs)=(enter s to,(to,U to)::(t,r)::fs):=by simp[step,h0]
   rw[e]
   refine⟨inv_visit hU I h0,?_⟩
   have hto:0≤to∧to<(N:Int):=by
    obtain⟨pre,h3⟩:=I.seg.uses t (to::r) fs rfl
    exact hU t to (by rw[h3];simp)
   have hv:=unv_visit U s (enter s to) to (s.nx+1) (by have:=(I.hi to);omega) rfl h0 N
   rw[if_pos hto] at hv
   show unv U (enter s to) N+((U to).length+1+(r.length+1+frs fs))+1≤unv U s N+((r.length+1)+1+frs fs)
   omega
  ·by_cases hm:to∈s.op
   ·have e:step U s ((t,to::r)::fs)=(low s t (s.o to),(t,r)::fs):=by simp[step,h0,hm]
    rw[e]
    refine⟨inv_back I h0 hm,?_⟩
    show unv U (low s t (s.o to)) N+(r.length+1+frs fs)+1≤unv U s N+((r.length+1)+1+frs fs)
    rw[unv_same U (show (low s t (s.o to)).o=s.o from rfl)]
    omega
   ·have e:step U s ((t,to::r)::fs)=(s,(t,r)::fs):=by simp[step,h0,hm]
    rw[e]
    refine⟨inv_past I h0 hm,?_⟩
    show unv U s N+(r.length+1+frs fs)+1≤unv U s N+((r.length+1)+1+frs fs)
    omega
def run (U:Int→List Int):Nat→S→Fr→S
 | 0,s,_=>s
 | f+1,s,fs=>run U f (step U s fs).1 (step U s fs).2
theorem run_nil (U:Int→List Int):∀ (f:Nat) (s:S),run U f s []=s
 | 0,s=>rfl
 | f+1,s=>run_nil U f s
def look (U:Int→List Int) (N:Nat) (s:S) (k:Int):S:=run U (mu U N (enter s k) [(k,U k)]) (enter s k) [(k,U k)]
structure Rest (U:Int→List Int) (n:Int) (s:S):Prop where
 op:s.op=[]
 hi:∀ x,0≤s.o x∧s.o x≤s.nx
 rng:∀ x,s.o x≠0→0≤x∧x<n
 cl:∀ v,s.o v≠0→0≤s.gr v∧s.gr v<s.mn∧∀ to∈U v,s.o to≠0∧s.gr to≤s.gr v
 ne:∀ g,0≤g→g<s.mn→∃ v,s.o v≠0∧s.gr v=g
 mn0:0≤s.mn
theorem inv_start {U:Int→List Int} {n:Int} {s:S} (R:Rest U n s) {k:Int} (hk:0≤k∧k<n) (h0:s.o k=0):Inv U n k (s.nx+1) (enter s k) [(k,U k)]:=by
 have ho:∀ x,x≠k→(enter s k).o x=s.o x:=fun x hx=>upd_ne _ _ hx
 have hok:(enter s k).o k=s.nx+1:=upd_eq _ _ _
 have hop:(enter s k).op=[k]:=by show k::s.op=_;rw[R.op]
 have hnx:=R.hi k
 have hcl:∀ v,Closed (enter s k) v→s.o v≠0∧v≠k:=fun v hv=>by
  have hvk:v≠k:=fun e=>hv.2 (by rw[hop,e];simp)
  exact⟨by have:=hv.1;rwa [ho v hvk] at this,hvk⟩
 have hcl2:∀ v,s.o v≠0→Closed (enter s k) v:=fun v hv=>by
  have hvk:v≠k:=fun e=>hv (e▸h0)
  exact⟨by rw[ho v hvk];exact hv,by rw[hop];simpa using hvk⟩
 refine⟨?_,?_,?_,?_,?_,?_,?_,?_,?_,R.mn0⟩
 ·rw[hop]
  exact Seg.cons (a:=[]) (pre:=[]) Seg.nil (fun v hv=>by cases hv) rfl (fun x hx=>by cases hx)
 ·rw[hop];exact List.pairwise_singleton _ _
 ·rw[hop]
  intro x hx
  rw[List.mem_singleton.1 hx,hok]
  omega
 ·intro x
  by_cases hx:x=k
  ·subst hx;rw[hok];exact⟨by omega,Int.le_refl _⟩
  ·rw[ho x hx];have:=R.hi x;exact⟨this.1,by show s.o x≤s.nx+1;omega⟩
 ·intro f hf
  rw[List.mem_singleton.1 hf]
  show s.nx+1≤upd _ _ _ _∧upd _ _ _ _≤upd _ _ _ _
  rw[upd_eq,upd_eq];omega
 ·intro _
  exact⟨⟨[],hop⟩,hok⟩
 ·intro x hx
  by_cases hxk:x=k
  ·exact hxk▸hk
  ·rw[ho x hxk] at hx;exact R.rng x hx
 ·intro v hv
  obtain⟨h1,h2,h3⟩:=R.cl v (hcl v hv).1
  exact⟨h1,h2,fun x hx=>⟨hcl2 x (h3 x hx).1,(h3 x hx).2⟩⟩
 ·intro g h1 h2
  obtain⟨v,hv,hg⟩:=R.ne g h1 h2
  exact⟨v,hcl2 v hv,hg⟩
theorem run_ok {U:Int→List Int} {N:Nat} {b B:Int} (hU:∀ v,∀ to∈U v,0≤to∧to<(N:Int)):∀ (f:Nat) (s:S) (fs:Fr),Inv U N b B s fs→(fs=[]→s.op=[])→mu U N s fs≤f→Inv U N b B (run U f s fs) []∧(run U f s fs).op=[]∧∀ x,s.o x≠0→(run U f s fs).o x≠0
 | f,s,[],I,h,_=>by rw[run_nil];exact⟨I,h rfl,fun _ h=>h⟩
 | 0,s,g::fs,I,_,hm=>by
  unfold mu frs at hm
  omega
 | f+1,s,g::fs,I,_,hm=>by
  obtain⟨h1,h2⟩:=step_ok hU I
  have hop:(step U s (g::fs)).2=[]→(step U s (g::fs)).1.op=[]:=fun e=>by
   obtain⟨t,r⟩:=g
   cases r with
   | nil =>
    cases fs with
    | nil=>exact (inv_last I).2
    | cons q fs=>obtain⟨u,r⟩:=q;cases e
   | cons to r =>
    by_cases h0:s.o to=0
    ·simp[step,h0] at e
    ·by_cases hm:to∈s.op
     ·simp[step,h0,hm] at e
     ·simp[step,h0,hm] at e
  obtain⟨h3,h4,h5⟩:=run_ok hU f _ _ h1 hop (by omega)
  refine⟨h3,h4,fun x hx=>h5 x ?_⟩
  obtain⟨t,r⟩:=g
  cases r with
  | nil =>
   cases fs with
   | nil=>show (leave s t).o x≠0;rw[leave_o];exact hx
   | cons q fs=>obtain⟨u,r⟩:=q;show (leave _ t).o x≠0;rw[leave_o];exact hx
  | cons to r =>
   by_cases h0:s.o to=0
   ·have e:step U s ((t,to::r)::fs)=(enter s to,(to,U to)::(t,r)::fs):=by simp[step,h0]
    rw[e]
    show upd _ _ _ x≠0
    by_cases hxt:x=to
    ·exact absurd (hxt▸h0) hx
    ·rw[upd_ne _ _ hxt];exact hx
   ·by_cases hm:to∈s.op
    ·have e:step U s ((t,to::r)::fs)=(low s t (s.o to),(t,r)::fs):=by simp[step,h0,hm]
     rw[e];exact hx
    ·have e:step U s ((t,to::r)::fs)=(s,(t,r)::fs):=by simp[step,h0,hm]
     rw[e];exact hx
theorem look_ok {U:Int→List Int} {N:Nat} (hU:∀ v,∀ to∈U v,0≤to∧to<(N:Int)) {s:S} (R:Rest U N s) {k:Int} (hk:0≤k∧k<(N:Int)) (h0:s.o k=0):Rest U N (look U N s k)∧(look U N s k).o k≠0∧∀ x,s.o x≠0→(look U N s k).o x≠0:=by
 have I:=inv_start R hk h0
 obtain⟨h1,h2,h3⟩:=run_ok hU _ _ _ I (fun h=>by cases h) (Nat.le_refl _)
 have hk1:(enter s k).o k≠0:=by
  show upd _ _ _ k≠0
  rw[upd_eq]
  have:=R.hi k
  omega
 refine⟨⟨h2,h1.hi,h1.rng,?_,?_,h1.mn0⟩,h3 k hk1,fun x hx=>h3 x ?_⟩
 ·intro v hv
  obtain⟨g1,g2,g3⟩:=h1.cl v ⟨hv,by show v∉(look U N s k).op;rw[show (look U N s k).op=[] from h2];simp⟩
  exact⟨g1,g2,fun to ho=>⟨(g3 to ho).1.1,(g3 to ho).2⟩⟩
 ·intro g g1 g2
  obtain⟨v,hv,hg⟩:=h1.ne g g1 g2
  exact⟨v,hv.1,hg⟩
 ·show upd _ _ _ x≠0
  by_cases hxk:x=k
  ·exact absurd (hxk▸h0) hx
  ·rw[upd_ne _ _ hxk];exact hx
def find (U:Int→List Int) (N:Nat):Nat→S→S
 | 0,s=>s
 | m+1,s=>(fun s'=>if s'.o (m:Int)=0 then look U N s' (m:Int) else s') (find U N m s)
theorem find_succ (U:Int→List Int) (N m:Nat) (s:S):find U N (m+1) s=if (find U N m s).o (m:Int)=0 then look U N (find U N m s) (m:Int) else find U N m s:=(rfl)
def s0:S:=⟨fun _=>0,fun _=>0,fun _=>0,[],0,0⟩
theorem find_ok {U:Int→List Int} {N:Nat} (hU:∀ v,∀ to∈U v,0≤to∧to<(N:Int)):∀ m:Nat,m≤N→Rest U N (find U N m s0)∧∀ x:Int,0≤x→x<m→(find U N m s0).o x≠0
 | 0,_=>⟨⟨rfl,fun x=>⟨Int.le_refl _,Int.le_refl _⟩,fun x h=>absurd rfl h,fun v h=>absurd rfl h,fun g h1 h2=>absurd h2 (by show ¬ g<0;omega),Int.le_refl _⟩,fun x h1 h2=>by omega⟩
 | m+1,hm=>by
  obtain⟨R,hv⟩:=find_ok hU m (by omega)
  rw[find_succ]
  by_cases h0:(find U N m s0).o (m:Int)=0
  ·rw[if_pos h0]
   obtain⟨R2,h1,h2⟩:=look_ok hU R (k:=(m:Int)) (by omega) h0
   refine⟨R2,fun x g1 g2=>?_⟩
   by_cases hx:x=(m:Int)
   ·rw[hx];exact h1
   ·exact h2 x (hv x g1 (by omega))
  ·rw[if_neg h0]
   refine⟨R,fun x g1 g2=>?_⟩
   by_cases hx:x=(m:Int)
   ·rw[hx];exact h0
   ·exact hv x g1 (by omega)
end Tarjan
namespace Tarjan
def nums:Nat→List Int
 | 0=>[]
 | m+1=>nums m++[(m:Int)]
theorem mem_nums:∀ (m:Nat) (x:Int),x∈nums m↔0≤x∧x<m
 | 0,x=>by simp[nums];try omega
 | m+1,x=>by
  rw[nums,List.mem_append,mem_nums m x,List.mem_singleton]
  omega
theorem nums_len:∀ m:Nat,(nums m).length=m
 | 0=>rfl
 | m+1=>by rw[nums,List.length_append,nums_len m];rfl
theorem nums_nodup:∀ m:Nat,(nums m).Nodup
 | 0=>List.nodup_nil
 | m+1=>by
  rw[nums,List.nodup_append]
  refine⟨nums_nodup m,by simp,fun x hx y hy e=>?_⟩
  rw[List.mem_singleton.1 hy] at e
  have:=(mem_nums m x).1 hx
  omega
theorem sub_len:∀ (l D:List Int),l.Nodup→(∀ x∈l,x∈D)→l.length≤D.length
 | [],D,_,_=>Nat.zero_le _
 | x::l,D,h,hs=>by
  have hx:=hs x (by simp)
  have h2:=List.nodup_cons.1 h
  have ih:=sub_len l (D.erase x) h2.2 (fun y hy=>by
   have hne:y≠x:=fun e=>h2.1 (e▸hy)
   exact (List.mem_erase_of_ne hne).2 (hs y (List.mem_cons_of_mem _ hy)))
  have hl:=List.length_erase_of_mem hx
  have:0<D.length:=List.length_pos_of_mem hx
  simp only[List.length_cons]
  omega
def members (gr:Fn) (N:Nat) (g:Int):List Int:=(nums N).filter (fun k=>gr k==g)
theorem mem_members (gr:Fn) (N:Nat) (g k:Int):k∈members gr N g↔(0≤k∧k<N)∧gr k=g:=by
 unfold members
 rw[List.mem_filter,mem_nums]
 simp
def needs (U:Int→List Int) (gr:Fn) (l:List Int) (D:List Int):Bool:=l.all (fun k=>(U k).all (fun to=>decide (gr to∈D)||gr to==gr k))
def isReady (U:Int→List Int) (gr:Fn) (N:Nat) (D:List Int) (k:Int):Bool:=!decide (gr k∈D)&&((members gr N (gr k)).head?==some k)&&needs U gr (members gr N (gr k)) D
def ready (U:Int→List Int) (gr:Fn) (N:Nat) (D:List Int):Int:=match (nums N).find? (isReady U gr N D) with|some k=>gr k|none=>0
def order (U:Int→List Int) (gr:Fn) (N:Nat):Nat→List Int
 | 0=>[]
 | j+1=>order U gr N j++[ready U gr N (order U gr N j)]
section
variable {U:Int→List Int} {gr:Fn} {N:Nat} {M:Nat}
theorem ready_ok (hU:∀ v,∀ to∈U v,0≤to∧to<(N:Int)) (h1:∀ v:Int,0≤v→v<N→0≤gr v∧gr v<M∧∀ to∈U v,gr to≤gr v) (h2:∀ g:Int,0≤g→g<M→∃ v:Int,0≤v∧v<N∧gr v=g) (D:List Int) (hD:∃ g:Int,0≤g∧g<M∧g∉D) :
  0≤ready U gr N D∧ready U gr N D<M∧ready U gr N D∉D∧∀ k:Int,0≤k→k<N→gr k=ready U gr N D→∀ to∈U k,gr to∈D∨gr to=ready U gr N D:=by
 have least:∃ g:Int,0≤g∧g<M∧g∉D∧∀ g':Int,0≤g'→g'<g→g'∈D:=by
  obtain⟨g,g0,g1,g2⟩:=hD
  obtain⟨m,rfl⟩:=Int.eq_ofNat_of_zero_le g0
  clear g0
  induction m using Nat.strongRecOn with
  | _ m ih =>
   by_cases hx:∃ m':Nat,m'<m∧(m':Int)∉D
   ·obtain⟨m',q1,q2⟩:=hx
    exact ih m' q1 (by omega) q2
   ·refine⟨(m:Int),by omega,g1,g2,fun g' q1 q2=>?_⟩
    obtain⟨m',rfl⟩:=Int.eq_ofNat_of_zero_le q1
    by_cases hm:(m':Int)∈D
    ·exact hm
    ·exact absurd ⟨m',by omega,hm⟩ hx
 obtain⟨g,g0,g1,g2,g3⟩:=least
 obtain⟨v,v0,v1,v2⟩:=h2 g g0 g1
 have hv:v∈members gr N g:=(mem_members gr N g v).2 ⟨⟨v0,v1⟩,v2⟩
 cases hm:members gr N g with
 | nil=>rw[hm] at hv;cases hv
 | cons k0 l =>
  have hk0:=(mem_members gr N g k0).1 (by rw[hm];simp)
  have hr:isReady U gr N D k0=true:=by
   unfold isReady
   rw[hk0.2,hm,decide_eq_false g2]
   simp only[List.head?_cons,beq_self_eq_true,Bool.and_true,Bool.not_false,Bool.true_and]
   unfold needs
   rw[List.all_eq_true]
   intro k hk
   rw[←hm] at hk
   obtain⟨⟨q1,q2⟩,q3⟩:=(mem_members gr N g k).1 hk
   rw[List.all_eq_true]
   intro to ht
   have hle:=(h1 k q1 q2).2.2 to ht
   have hto:=hU k to ht
   have hge:=(h1 to hto.1 hto.2).1
   by_cases he:gr to=gr k
   ·simp[he]
   ·rw[decide_eq_true (g3 (gr to) hge (by omega))]
    rfl
  have hs:((nums N).find? (isReady U gr N D)).isSome=true:=List.find?_isSome.2 ⟨k0,(mem_nums N k0).2 hk0.1,hr⟩
  obtain⟨k,hk⟩:=Option.isSome_iff_exists.1 hs
  have he:ready U gr N D=gr k:=by unfold ready;rw[hk]
  have hkr:=List.find?_some hk
  have hkm:=(mem_nums N k).1 (List.mem_of_find?_eq_some hk)
  unfold isReady at hkr
  rw[Bool.and_eq_true,Bool.and_eq_true] at hkr
  obtain⟨⟨p1,p2⟩,p3⟩:=hkr
  have hq:=h1 k hkm.1 hkm.2
  rw[he]
  refine⟨hq.1,hq.2.1,by simpa using p1,fun k' q1 q2 q3 to ht=>?_⟩
  unfold needs at p3
  rw[List.all_eq_true] at p3
  have:=p3 k' ((mem_members gr N _ k').2 ⟨⟨q1,q2⟩,q3⟩)
  rw[List.all_eq_true] at this
  have:=this to ht
  rw[Bool.or_eq_true,decide_eq_true_eq,beq_iff_eq] at this
  rcases this with h|h
  ·exact Or.inl h
  ·exact Or.inr (h.trans q3)
theorem order_ok (hU:∀ v,∀ to∈U v,0≤to∧to<(N:Int)) (h1:∀ v:Int,0≤v→v<N→0≤gr v∧gr v<M∧∀ to∈U v,gr to≤gr v) (h2:∀ g:Int,0≤g→g<M→∃ v:Int,0≤v∧v<N∧gr v=g) :
  ∀ j:Nat,j≤M→(order U gr N j).length=j∧(order U gr N j).Nodup∧(∀ g∈order U gr N j,0≤g∧g<(M:Int))∧∀ (i:Nat) (g:Int),(order U gr N j)[i]?=some g→∀ k:Int,0≤k→k<N→gr k=g→∀ to∈U k,gr to∈(order U gr N j).take (i+1)
 | 0,_=>by
  refine⟨rfl,List.nodup_nil,fun g h=>?_,fun i g h=>?_⟩
  ·cases h
  ·cases h
 | j+1,hj=>by
  obtain⟨e1,e2,e3,e4⟩:=order_ok hU h1 h2 j (by omega)
  have hex:∃ g:Int,0≤g∧g<M∧g∉order U gr N j:=by
   by_cases hx:∃ g:Int,0≤g∧g<M∧g∉order U gr N j
   ·exact hx
   ·have:=sub_len (nums M) (order U gr N j) (nums_nodup M) (fun x hx2=>by
     have hxm:=(mem_nums M x).1 hx2
     by_cases hm:x∈order U gr N j
     ·exact hm
     ·exact absurd ⟨x,hxm.1,hxm.2,hm⟩ hx)
    rw[nums_len,e1] at this
    omega
  obtain⟨r1,r2,r3,r4⟩:=ready_ok hU h1 h2 _ hex
  show (order U gr N j++[ready U gr N (order U gr N j)]).length=j+1∧_
  refine⟨by rw[List.length_append,e1];rfl,?_,?_,?_⟩
  ·show (order U gr N j++[ready U gr N (order U gr N j)]).Nodup
   rw[List.nodup_append]
   refine⟨e2,by simp,fun x hx y hy e=>?_⟩
   rw[List.mem_singleton.1 hy] at e
   exact r3 (e▸hx)
  ·intro g hg
   rcases List.mem_append.1 (show g∈order U gr N j++[ready U gr N (order U gr N j)] from hg) with hg|hg
   ·exact e3 g hg
   ·rw[List.mem_singleton.1 hg];exact⟨r1,r2⟩
  ·intro i g hi k q1 q2 q3 to ht
   have hi':(order U gr N j++[ready U gr N (order U gr N j)])[i]?=some g:=hi
   show gr to∈(order U gr N j++[ready U gr N (order U gr N j)]).take (i+1)
   by_cases hlt:i<(order U gr N j).length
   ·rw[List.getElem?_append_left hlt] at hi'
    rw[List.take_append_of_le_length (by omega)]
    exact e4 i g hi' k q1 q2 q3 to ht
   ·rw[List.getElem?_append_right (by omega)] at hi'
    have hi0:i - (order U gr N j).length=0:=by
     by_cases h0:i - (order U gr N j).length=0
     ·exact h0
     ·rw[List.getElem?_eq_none (by simp only[List.length_cons,List.length_nil];omega)] at hi';cases hi'
    rw[hi0] at hi'
    have hg:ready U gr N (order U gr N j)=g:=by simpa using hi'
    rw[List.take_of_length_le (by rw[List.length_append];simp only[List.length_cons,List.length_nil];omega)]
    rcases r4 k q1 q2 (q3.trans hg.symm) to ht with h|h
    ·exact List.mem_append_left _ h
    ·rw[h];simp
theorem order_all (hU:∀ v,∀ to∈U v,0≤to∧to<(N:Int)) (h1:∀ v:Int,0≤v→v<N→0≤gr v∧gr v<M∧∀ to∈U v,gr to≤gr v) (h2:∀ g:Int,0≤g→g<M→∃ v:Int,0≤v∧v<N∧gr v=g) (g:Int) (g0:0≤g) (g1:g<M):g∈order U gr N M:=by
 obtain⟨e1,e2,e3,_⟩:=order_ok hU h1 h2 M (Nat.le_refl _)
 by_cases hm:g∈order U gr N M
 ·exact hm
 ·have:=sub_len (g::order U gr N M) (nums M) (List.nodup_cons.2 ⟨hm,e2⟩) (fun x hx=>by
   rcases List.mem_cons.1 hx with rfl|hx
   ·exact (mem_nums M x).2 ⟨g0,g1⟩
   ·exact (mem_nums M x).2 (e3 x hx))
  rw[nums_len] at this
  simp only[List.length_cons,e1] at this
  omega
end
def total (gr:Fn) (N:Nat) (D:List Int):Nat:=(D.map (fun g=>(members gr N g).length)).sum
theorem members_succ (gr:Fn) (N:Nat) (g:Int):(members gr (N+1) g).length=(members gr N g).length+if gr (N:Int)=g then 1 else 0:=by
 unfold members
 rw[nums,List.filter_append,List.length_append]
 by_cases h:gr (N:Int)=g
 ·rw[if_pos h,List.filter_cons_of_pos (by simpa using h)];rfl
 ·rw[if_neg h,List.filter_cons_of_neg (by simpa using h)];rfl
theorem total_succ (gr:Fn) (N:Nat):∀ D:List Int,D.Nodup→total gr (N+1) D=total gr N D+if gr (N:Int)∈D then 1 else 0
 | [],_=>rfl
 | g::D,h=>by
  have h2:=List.nodup_cons.1 h
  have ih:=total_succ gr N D h2.2
  unfold total at ih ⊢
  simp only[List.map_cons,List.sum_cons,members_succ] at ih ⊢
  rw[ih]
  by_cases h3:gr (N:Int)=g
  ·rw[if_pos h3,if_neg (by rw[h3];exact h2.1),if_pos (by rw[h3];simp)];omega
  ·by_cases h4:gr (N:Int)∈D
   ·rw[if_neg h3,if_pos h4,if_pos (List.mem_cons_of_mem _ h4)];omega
   ·rw[if_neg h3,if_neg h4,if_neg (by intro hm;rcases List.mem_cons.1 hm with e|e;exact h3 e;exact h4 e)];omega
theorem total_all (gr:Fn) (D:List Int) (hD:D.Nodup):∀ N:Nat,(∀ k:Int,0≤k→k<N→gr k∈D)→total gr N D=N
 | 0,_=>by
  unfold total
  have:∀ l:List Int,(l.map (fun g=>(members gr 0 g).length)).sum=0:=fun l=>by
   induction l with
   | nil=>rfl
   | cons x l ih=>simp only[List.map_cons,List.sum_cons,ih];rfl
  exact this D
 | N+1,h=>by
  rw[total_succ gr N D hD,total_all gr D hD N (fun k h1 h2=>h k h1 (by omega)),if_pos (h N (by omega) (by omega))]
end Tarjan
namespace Go.Am
open Go
def tab (n:Nat) (f:Int→AV):List AV:=(List.range n).map fun k:Nat=>f (k:Int)
theorem tab_len {n f}:(tab n f).length=n:=by unfold tab;simp
theorem tab_get {n f} {k:Nat} (h:k<n):(tab n f)[k]?=some (f k):=by unfold tab;simp[h]
theorem tab_set {n f} {k:Nat} {v:AV}:(tab n f).set k v=tab n (fun x=>if x=k then v else f x):=by
 apply List.ext_getElem?
 intro i
 rw[List.getElem?_set]
 by_cases hi:i<n
 ·rw[tab_get hi,tab_get hi,tab_len]
  by_cases hk:k=i
  ·subst hk;simp[hi]
  ·have:(i:Int)≠(k:Int):=by omega
   simp[hk,this]
 ·have h1:(tab n f)[i]?=none:=List.getElem?_eq_none (by rw[tab_len];omega)
  have h2:(tab n (fun x=>if x=k then v else f x))[i]?=none:=List.getElem?_eq_none (by rw[tab_len];omega)
  rw[h1,h2,tab_len]
  split
  ·rw[if_neg (by omega)]
  ·rfl
theorem tab_upd {n:Nat} {f:Int→Int} {k:Nat} {v:Int}:(tab n fun x=>.i .i64 (f x)).set k (.i .i64 v)=tab n fun x=>.i .i64 (Tarjan.upd f k v x):=by
 rw[tab_set]
 congr 1
 funext x
 unfold Tarjan.upd
 split<;>rfl
structure Ids where
 ao:Nat
 al:Nat
 ai:Nat
 ag:Nat
def Ids.has (I:Ids) (a:Nat):Prop:=a=I.ao∨a=I.al∨a=I.ai∨a=I.ag
def fob (us:AV) (n:Nat) (I:Ids) (s:Tarjan.S) (v:AV):Ob:=.cells [us,.os I.ao .one n,.os I.al .one n,v,.os I.ai .one n,.os I.ag .one n,.i .i64 s.nx,.i .i64 s.mn]
abbrev ints (l:List Int):List AV:=l.map (.i .i64)
theorem ints_ele {l:List Int}:∀ x∈ints l,Ele .one x:=fun x hx=>by obtain⟨n,_,rfl⟩:=List.mem_map.1 hx;exact ele_one rfl
structure Fa (A:Nat→Option (List AV)) (N n:Nat) (I:Ids) (s:Tarjan.S) (v:AV) (d:Option Nat):Prop where
 o:A I.ao=some (tab n fun k=>.i .i64 (s.o k))
 l:A I.al=some (tab n fun k=>.i .i64 (s.lw k))
 i:A I.ai=some (tab n fun k=>.b (decide (k∈s.op)))
 g:A I.ag=some (tab n fun k=>.i .i64 (s.gr k))
 op:Gr A N .one v (ints s.op.reverse) d
 lt:∀ a,I.has a→a<N
 nd:∀ a,d=some a→¬ I.has a
 ne:(I.ao≠I.al∧I.ao≠I.ai∧I.ao≠I.ag)∧(I.al≠I.ai∧I.al≠I.ag)∧I.ai≠I.ag
section
variable {A A':Nat→Option (List AV)} {N N' n:Nat} {I:Ids} {s s':Tarjan.S} {v v':AV} {d d':Option Nat}
theorem Fa.alow (h:Fa A N n I s v d):v.alow N=true:=h.op.alow fun a ha=>h.op.lt ha
def Off (I:Ids) (d:Option Nat) (N:Nat) (A A':Nat→Option (List AV)):Prop:=∀ a,a<N→¬ I.has a→d≠some a→A' a=A a
theorem Fa.mono (h:Fa A N n I s v d) (hA:∀ a,(I.has a∨d=some a)→A' a=A a∧a<N'):Fa A' N' n I s v d :=
 ⟨(hA _ (.inl (.inl rfl))).1.trans h.o,(hA _ (.inl (.inr (.inl rfl)))).1.trans h.l,(hA _ (.inl (.inr (.inr (.inl rfl))))).1.trans h.i,(hA _ (.inl (.inr (.inr (.inr rfl))))).1.trans h.g,h.op.mono fun a ha=>hA a (.inr ha),fun a ha=>(hA a (.inl ha)).2,h.nd,h.ne⟩
theorem Fa.back {u:St} {r:Nat} {us x:AV} (h:Fa A N n I s v d) (h':Fa A' N' n I s' v' d') (hN:N≤N') (hoff:Off I d N A A') (ho:obj u r=some (fob us n I s v)) (hdd:∀ a,d'=some a→d=some a∨N≤a) :
  ∃ A2 N2,Am.back (wa u A N) x (wa (setOb u r (fob us n I s' v')) A' N')=wa (setOb u r (fob us n I s' v')) A2 N2∧Fa A2 N2 n I s' v' d'∧N≤N2∧Off I d N A A2:=by
 unfold Am.back
 split
 ·rename_i hc
  refine⟨A,N,rfl,h'.mono fun a ha=>?_,Nat.le_refl _,fun _ _ _ _=>rfl⟩
  have hlt:a<N:=by
   rcases ha with ha|ha
   ·exact h.lt a ha
   ·rcases hdd a ha with h1|h1
    ·exact h.op.lt h1
    ·have hv:v'.alow N=true:=by
      have hob:obj (wa (setOb u r (fob us n I s' v')) A' N') r=some (fob us n I s' v'):=obj_set (obj_lt ho)
      rcases hc.2.2 r _ hob with h2|h2
      ·have h3:obj u r=some (fob us n I s' v'):=h2
       rw[ho] at h3
       injection h3 with h3
       injection h3 with h3
       simp only[List.cons.injEq] at h3
       rw[←h3.2.2.2.1]
       exact h.alow
      ·unfold fob at h2
       replace h2:AV.alowL N _=true:=h2
       simp only[alowL_cons,Bool.and_eq_true] at h2
       exact h2.2.2.2.1
     exact h'.op.alow' hv ha
  exact⟨(hc.1 a hlt).symm,hlt⟩
 ·exact⟨A',N',rfl,h',hN,hoff⟩
end
end Go.Am
namespace Go.Am
open Go
theorem splice_one {cs:List AV} {k:Nat} {v:AV} (h:k<cs.length):splice cs k [v]=cs.set k v:=by
 unfold splice
 rw[List.set_eq_take_append_cons_drop,if_pos h]
 simp
section
variable {A:Nat→Option (List AV)} {N n a k:Nat} {f:Int→AV} {u:St}
theorem ar_iad (h:k<n) (kd:IntKind):aiad .one (.os a .one n) (.i kd (k:Int))=some (.aref a k):=by
 unfold aiad
 dsimp only
 rw[if_pos ⟨by omega,by omega,rfl⟩,Int.toNat_natCast]
 simp[El.size]
theorem ar_ld (h:A a=some (tab n f)) (hk:k<n):aload (wa u A N) .one (.aref a k)=some (f k):=by
 show (A a).bind _=_
 rw[h]
 exact tab_get hk
theorem ar_st {v:AV} {bs:Nat} (h:A a=some (tab n f)) (hk:k<n) (hv:v.cells=[v]) (hl:v.low 0=true):astore bs 1 (wa u A N) v (.aref a k)=some (.un,wa u (upd A a (some ((tab n f).set k v))) N):=by
 unfold astore
 show (match A a with|some cs=>_|none=>_)=_
 rw[h]
 dsimp only
 rw[hv,if_pos ⟨rfl,by decide,by rw[tab_len];omega,hl⟩,splice_one (by rw[tab_len];exact hk)]
 rfl
end
theorem enter_w {u:St} {A:Nat→Option (List AV)} {N n r k:Nat} {us v:AV} {I:Ids} {s:Tarjan.S} {d:Option Nat} (ho:obj u r=some (fob us n I s v)) (hF:Fa A N n I s v d) (hk:k<n) (hn:n≤100000) (hop:s.op.length≤n) (hnx:0≤s.nx∧s.nx<10000000000) (h0:s.o k=0) :
  W (C F1 X1 116 [.ref r 0,.i .i64 (k:Int)] (wa u A N)) fun q=>∃ A' N' v' d',q=(.agg [.i .i64 (k:Int),.i .i64 0],wa (setOb u r (fob us n I (Tarjan.enter s k) v')) A' N')∧Fa A' N' n I (Tarjan.enter s k) v' d'∧N≤N'∧Off I d N A A'∧(∀ a,d'=some a→d=some a∨N≤a):=by
 have hr:=obj_lt ho
 have ho2:=ho
 unfold fob at ho2
 obtain⟨⟨n1,n2,n3⟩,⟨n4,n5⟩,n6⟩:=hF.ne
 have hw:IntKind.i64.wrap (s.nx+1)=s.nx+1:=by
  obtain⟨m,hm⟩:=Int.eq_ofNat_of_zero_le hnx.1
  rw[hm];exact wrap_one (by omega)
 obtain⟨A1,hA1⟩:∃ A1,A1=upd A I.ao (some ((tab n fun k=>.i .i64 (s.o k)).set k (.i .i64 (s.nx+1)))):=⟨_,rfl⟩
 have st1:∀ bs u,astore bs 1 (wa u A N) (.i .i64 (s.nx+1)) (.aref I.ao k)=some (.un,wa u A1 N):=fun bs u=>by rw[hA1];exact ar_st hF.o hk rfl rfl
 have l1:A1 I.al=some (tab n fun k=>.i .i64 (s.lw k)):=by rw[hA1,upd_other n1.symm];exact hF.l
 obtain⟨A2,hA2⟩:∃ A2,A2=upd A1 I.al (some ((tab n fun k=>.i .i64 (s.lw k)).set k (.i .i64 (s.nx+1)))):=⟨_,rfl⟩
 have st2:∀ bs u,astore bs 1 (wa u A1 N) (.i .i64 (s.nx+1)) (.aref I.al k)=some (.un,wa u A2 N):=fun bs u=>by rw[hA2];exact ar_st l1 hk rfl rfl
 have h12:∀ a,a≠I.ao→a≠I.al→A2 a=A a:=fun a h1 h2=>by rw[hA2,upd_other h2,hA1,upd_other h1]
 have g2:Gr A2 N .one v (ints s.op.reverse) d:=hF.op.mono fun a ha=>⟨h12 a (fun e=>hF.nd a ha (.inl e)) (fun e=>hF.nd a ha (.inr (.inl e))),hF.op.lt ha⟩
 obtain⟨v',A3,N3,d',p1,p2,p3,p4,p5,p6⟩:=g2.push' (y:=.i .i64 (k:Int)) [.i .i64 (k:Int)] rfl (ele_one rfl) (by simp;unfold most;omega)
 have h23:∀ a,I.has a→A3 a=A2 a:=fun a ha=>p4 a (hF.lt a ha) (fun e=>hF.nd a e ha)
 have i3:A3 I.ai=some (tab n fun k=>.b (decide (k∈s.op))):=by rw[h23 _ (.inr (.inr (.inl rfl))),h12 _ n2.symm n4.symm];exact hF.i
 obtain⟨A4,hA4⟩:∃ A4,A4=upd A3 I.ai (some ((tab n fun k=>.b (decide (k∈s.op))).set k (.b true))):=⟨_,rfl⟩
 have st4:∀ bs u,astore bs 1 (wa u A3 N3) (.b true) (.aref I.ai k)=some (.un,wa u A4 N3):=fun bs u=>by rw[hA4];exact ar_st i3 hk rfl rfl
 have hlow:∀ m,v.low m=true:=hF.op.low
 have hlow':∀ m,v'.low m=true:=p2.low
 have hone:v.cells=[v]:=hF.op.one
 have hone':v'.cells=[v']:=p2.one
 have hi:=@ar_iad n
 rw[w_call (f:=116) rfl]
 simp only[go_sem,reduceCtorEq,↓reduceIte,nA,nB,nC,nD,nE,iA,iB,iC,iD,iE,iF,hr,ho2,hw,hi hk,st1,st2,st4,p1,hlow,hlow',hone,hone']
 have h34:∀ a,a≠I.ai→A4 a=A3 a:=fun a h=>by rw[hA4,upd_other h]
 have FA:Fa A4 N3 n I (Tarjan.enter s k) v' d':=by
  refine⟨?_,?_,?_,?_,?_,fun a ha=>Nat.lt_of_lt_of_le (hF.lt a ha) p3,fun a ha hh=>by have:=p5 a ha;have:=hF.lt a hh;omega,hF.ne⟩
  ·rw[h34 _ n2,h23 _ (.inl rfl),hA2,upd_other n1,hA1,upd_same,tab_upd];rfl
  ·rw[h34 _ n4,h23 _ (.inr (.inl rfl)),hA2,upd_same,tab_upd];rfl
  ·rw[hA4,upd_same,tab_set]
   congr 2
   funext x
   show (if x=(k:Int) then AV.b true else .b (decide (x∈s.op)))=.b (decide (x∈(k:Int)::s.op))
   by_cases hx:x=(k:Int)<;>simp[hx]
  ·rw[h34 _ n6.symm,h23 _ (.inr (.inr (.inr rfl))),h12 _ n3.symm n5.symm];exact hF.g
  ·have e:ints s.op.reverse++[AV.i .i64 (k:Int)]=ints (Tarjan.enter s k).op.reverse:=by
    show _=ints ((k:Int)::s.op).reverse
    simp
   rw[←e]
   exact p2.mono fun a ha=>⟨h34 a (fun e=>by have:=p5 a ha;have:=hF.lt I.ai (.inr (.inr (.inl rfl)));omega),p2.lt ha⟩
 have hoff:Off I d N A A4:=fun a h1 h2 h3=>by
  rw[h34 a (fun e=>h2 (.inr (.inr (.inl e)))),p4 a h1 h3,h12 a (fun e=>h2 (.inl e)) (fun e=>h2 (.inr (.inl e)))]
 obtain⟨A',N',b1,b2,b3,b4⟩:=hF.back (x:=.agg [.i .i64 (k:Int),.i .i64 0]) FA p3 hoff ho (fun a ha=>.inr (p5 a ha))
 exact⟨A',N',v',d',by rw[←b1];rfl,b2,b3,b4,fun a ha=>.inr (p5 a ha)⟩
end Go.Am
namespace Go.Am
open Go
def mid (s:Tarjan.S) (p q:List Int):Tarjan.S:=⟨s.o,s.lw,fun x=>if x∈p then s.mn else s.gr x,q,s.nx,s.mn⟩
theorem mid_nil {s:Tarjan.S}:mid s [] s.op=s:=by unfold mid;simp
theorem leave_w {u:St} {A:Nat→Option (List AV)} {N n r k:Nat} {us v:AV} {I:Ids} {s:Tarjan.S} {d:Option Nat} (ho:obj u r=some (fob us n I s v)) (hF:Fa A N n I s v d) (hk:k<n) (hn:n≤100000) (hin:(k:Int)∈s.op) (hrg:∀ x∈s.op,0≤x∧x<(n:Int)) (hnd:s.op.Nodup) (hop:s.op.length≤n) (hmn:0≤s.mn∧s.mn<10000000000) :
  W (C F1 X1 117 [.ref r 0,.i .i64 (k:Int)] (wa u A N)) fun q=>∃ A' N' v' d',q=(.tup [],wa (setOb u r (fob us n I (Tarjan.leave s k) v')) A' N')∧Fa A' N' n I (Tarjan.leave s k) v' d'∧N≤N'∧Off I d N A A'∧(∀ a,d'=some a→d=some a∨N≤a):=by
 have hr:=obj_lt ho
 have hsid:=set_id ho
 have ho2:=ho
 unfold fob at ho2
 have hw:IntKind.i64.wrap (s.mn+1)=s.mn+1:=by
  obtain⟨m,hm⟩:=Int.eq_ofNat_of_zero_le hmn.1
  rw[hm];exact wrap_one (by omega)
 have hi:=@ar_iad n
 have l0:∀ u,aload (wa u A N) .one (.aref I.al k)=some (.i .i64 (s.lw k)):=fun u=>ar_ld hF.l hk
 have o0:∀ u,aload (wa u A N) .one (.aref I.ao k)=some (.i .i64 (s.o k)):=fun u=>ar_ld hF.o hk
 rw[w_call (f:=117) rfl]
 simp only[go_sem,reduceCtorEq,↓reduceIte,nA,nB,nC,nD,nE,iA,iB,iC,iD,iE,iF,hr,ho2,hi hk,l0,o0]
 refine W.ifc (fun dd=>?_) (fun dd=>?_)
 ·have hne:s.lw k≠s.o k:=by simpa using dd
  simp only[go_sem,reduceCtorEq,↓reduceIte,nA,nB,nC,nD,nE,iA,iB,iC,iD,iE,iF,dd]
  have hl:Tarjan.leave s k=s:=by unfold Tarjan.leave;rw[if_neg hne]
  rw[hl]
  exact⟨A,N,v,d,by rw[hsid],hF,Nat.le_refl _,fun _ _ _ _=>rfl,fun a ha=>.inl ha⟩
 ·have heq:s.lw k=s.o k:=by simpa using dd
  simp only[go_sem,reduceCtorEq,↓reduceIte,nA,nB,nC,nD,nE,iA,iB,iC,iD,iE,iF,dd]
  refine W.step (W.loop (L:=l117_0) (Q:=fun q=>∃ (p q':List Int) (v':AV) (A':Nat→Option (List AV)) (ex:Env),q=(.exit 0,[(0,.ref r 0),(1,.i .i64 (k:Int))]++ex,wa (setOb u r (fob us n I s v')) A' N)∧s.op=p++(k:Int)::q'∧(k:Int)∉p∧Fa A' N n I (mid s (p++[(k:Int)]) q') v' d∧Off I d N A A') rfl (fun m e t=>∃ (p q':List Int) (v':AV) (A':Nat→Option (List AV)) (ex:Env),m=q'.length∧e=[(0,.ref r 0),(1,.i .i64 (k:Int))]++ex∧t=wa (setOb u r (fob us n I s v')) A' N∧s.op=p++q'∧(k:Int)∉p∧(k:Int)∈q'∧Fa A' N n I (mid s p q') v' d∧Off I d N A A') ?_ _ _ _ ⟨[],s.op,v,A,_,rfl,rfl,by rw[hsid],rfl,(by simp),hin,by rw[mid_nil];exact hF,fun _ _ _ _=>rfl⟩) ?_
  ·rintro m e t ⟨p,q,v',A',ex,rfl,rfl,rfl,hs,hkp,hkq,hG,hoff⟩
   obtain⟨x,q',rfl⟩:∃ x q',q=x::q':=by cases q with|nil=>cases hkq|cons x q'=>exact⟨x,q',rfl⟩
   obtain⟨hx0,hxn⟩:=hrg x (by rw[hs];simp)
   obtain⟨j,rfl⟩:=Int.eq_ofNat_of_zero_le hx0
   have hj:j<n:=by omega
   obtain⟨⟨n1,n2,n3⟩,⟨n4,n5⟩,n6⟩:=hF.ne
   have hnd2:(p++(j:Int)::q').Nodup:=by rw[←hs];exact hnd
   obtain⟨hp1,hp2,hp3⟩:=List.nodup_append.1 hnd2
   obtain⟨hq1,hq2⟩:=List.nodup_cons.1 hp2
   have hlen:=hG.op.len
   have hrev:ints ((j:Int)::q').reverse=ints q'.reverse++[.i .i64 (j:Int)]:=by simp
   have hop2:Gr A' N .one v' (ints ((j:Int)::q').reverse) d:=hG.op
   have hql:q'.length<1000000:=by
    have:=congrArg List.length hs
    simp at this
    omega
   have hlen2:alen false v'=some (.i .i64 ((q'.length+1:Nat):Int)):=by have:=hop2.len;simpa using this
   have hw1:IntKind.i64.wrap (((q'.length+1:Nat):Int) - 1)=(q'.length:Int):=by rw[←wrap_nat (n:=q'.length) (by omega)];congr 1;omega
   obtain⟨pt,t1,t2,-⟩:=(hop2.rd (by decide)).ld q'.length (.i .i64 (j:Int)) (by rw[hrev,List.getElem?_append_right (by simp)];simp)
   have t2':∀ u,aload (wa u A' N) .one pt=some (.i .i64 (j:Int)):=fun u=>t2 _ rfl
   obtain⟨v2,c1,c2⟩:=hop2.cut (n:=q'.length) (by simp) (k:=.i64)
   have c3:Gr A' N .one v2 (ints q'.reverse) d:=by
    have e:(ints ((j:Int)::q').reverse).take q'.length=ints q'.reverse:=by rw[hrev,List.take_append_of_le_length (by simp),List.take_of_length_le (by simp)]
    rw[←e];exact c2
   obtain⟨A1,hA1⟩:∃ A1,A1=upd A' I.ai (some ((tab n fun x=>.b (decide (x∈(j:Int)::q'))).set j (.b false))):=⟨_,rfl⟩
   have st1:∀ bs u,astore bs 1 (wa u A' N) (.b false) (.aref I.ai j)=some (.un,wa u A1 N):=fun bs u=>by rw[hA1];exact ar_st hG.i hj rfl rfl
   have g1:A1 I.ag=some (tab n fun x=>.i .i64 ((mid s p ((j:Int)::q')).gr x)):=by rw[hA1,upd_other n6.symm];exact hG.g
   obtain⟨A2,hA2⟩:∃ A2,A2=upd A1 I.ag (some ((tab n fun x=>.i .i64 ((mid s p ((j:Int)::q')).gr x)).set j (.i .i64 s.mn))):=⟨_,rfl⟩
   have st2:∀ bs u,astore bs 1 (wa u A1 N) (.i .i64 s.mn) (.aref I.ag j)=some (.un,wa u A2 N):=fun bs u=>by rw[hA2];exact ar_st g1 hj rfl rfl
   have hlow:=hG.op.low
   have hone:=hG.op.one
   have hlow2:=c3.low
   have hone2:=c3.one
   have h12:∀ a,a≠I.ai→a≠I.ag→A2 a=A' a:=fun a h1 h2=>by rw[hA2,upd_other h2,hA1,upd_other h1]
   have FA:Fa A2 N n I (mid s (p++[(j:Int)]) q') v2 d:=by
    refine⟨(h12 _ n2 n3).trans hG.o,(h12 _ n4 n5).trans hG.l,?_,?_,c3.mono fun a ha=>⟨h12 a (fun e=>hF.nd a ha (.inr (.inr (.inl e)))) (fun e=>hF.nd a ha (.inr (.inr (.inr e)))),c3.lt ha⟩,hF.lt,hF.nd,hF.ne⟩
    ·rw[hA2,upd_other n6,hA1,upd_same,tab_set]
     congr 2
     funext x
     show (if x=(j:Int) then AV.b false else .b (decide (x∈(j:Int)::q')))=.b (decide (x∈q'))
     by_cases hx:x=(j:Int)
     ·subst hx;simp[hq1]
     ·simp[hx]
    ·rw[hA2,upd_same,tab_set]
     congr 2
     funext x
     show (if x=(j:Int) then AV.i .i64 s.mn else .i .i64 (if x∈p then s.mn else s.gr x))=.i .i64 (if x∈p++[(j:Int)] then s.mn else s.gr x)
     by_cases hx:x=(j:Int)
     ·simp[hx]
     ·simp[hx]
   have hoff2:Off I d N A A2:=fun a h1 h2 h3=>by
    rw[h12 a (fun e=>h2 (.inr (.inr (.inl e)))) (fun e=>h2 (.inr (.inr (.inr e))))];exact hoff a h1 h2 h3
   unfold fob
   simp only[go_sem,reduceCtorEq,↓reduceIte,nA,nB,nC,nD,nE,iA,iB,iC,iD,iE,iF,hr,hlen2,hw1,t1,t2',c1,hi hj,st1,st2,hlow,hone,hlow2,hone2]
   refine W.ifc (fun de=>?_) (fun de=>?_)
   ·have hjk:(j:Int)=(k:Int):=by simpa using de
    simp only[go_sem,reduceCtorEq,↓reduceIte,nA,nB,nC,nD,nE,iA,iB,iC,iD,iE,iF,de]
    exact⟨p,q',v2,A2,_,rfl,by rw[←hjk];exact hs,hkp,by rw[←hjk];exact FA,hoff2⟩
   ·have hjk:(j:Int)≠(k:Int):=by simpa using de
    simp only[go_sem,reduceCtorEq,↓reduceIte,nA,nB,nC,nD,nE,iA,iB,iC,iD,iE,iF,de]
    refine⟨q'.length,by simp,p++[(j:Int)],q',v2,A2,_,rfl,rfl,rfl,by rw[hs];simp,?_,?_,FA,hoff2⟩
    ·simp only[List.mem_append,List.mem_singleton,not_or]
     exact⟨hkp,fun h=>hjk h.symm⟩
    ·rcases List.mem_cons.1 hkq with h|h
     ·exact absurd h.symm hjk
     ·exact h
  ·rintro _ ⟨p,q',v',A',ex,rfl,hs,hkp,hG,hoff⟩
   unfold fob
   simp only[go_sem,reduceCtorEq,↓reduceIte,nA,nB,nC,nD,nE,iA,iB,iC,iD,iE,iF,hr,hw]
   obtain⟨ha1,ha2⟩:=Tarjan.above_app k p q' hkp
   have hl:Tarjan.leave s k=⟨s.o,s.lw,fun x=>if x∈p++[(k:Int)] then s.mn else s.gr x,q',s.nx,s.mn+1⟩:=by
    unfold Tarjan.leave Tarjan.close
    rw[if_pos heq,hs,ha1,ha2]
    congr 1
    funext x
    by_cases hx:x=(k:Int)<;>simp[hx]
   have FA:Fa A' N n I (Tarjan.leave s k) v' d:=by rw[hl];exact⟨hG.o,hG.l,hG.i,hG.g,hG.op,hG.lt,hG.nd,hG.ne⟩
   obtain⟨A2,N2,b1,b2,b3,b4⟩:=hF.back (x:=.tup []) FA (Nat.le_refl _) hoff ho (fun a ha=>.inl ha)
   refine⟨A2,N2,v',d,?_,b2,b3,b4,fun a ha=>.inl ha⟩
   rw[hl] at b1 ⊢
   exact congrArg (Prod.mk (AV.tup [])) b1
end Go.Am
namespace Tarjan
def usesOf (us:List (List Int)) (k:Int):List Int:=us.getD k.toNat []
theorem step_visit {U:Int→List Int} {s:S} {t x:Int} {r:List Int} {fs:Fr} (h:s.o x=0):step U s ((t,x::r)::fs)=(enter s x,(x,U x)::(t,r)::fs):=by
 show (if s.o x=0 then _ else _)=_
 rw[if_pos h]
theorem step_back {U:Int→List Int} {s:S} {t x:Int} {r:List Int} {fs:Fr} (h:s.o x≠0) (hm:x∈s.op):step U s ((t,x::r)::fs)=(low s t (s.o x),(t,r)::fs):=by
 show (if s.o x=0 then _ else if x∈s.op then _ else _)=_
 rw[if_neg h,if_pos hm]
theorem step_past {U:Int→List Int} {s:S} {t x:Int} {r:List Int} {fs:Fr} (h:s.o x≠0) (hm:x∉s.op):step U s ((t,x::r)::fs)=(s,(t,r)::fs):=by
 show (if s.o x=0 then _ else if x∈s.op then _ else _)=_
 rw[if_neg h,if_neg hm]
theorem leave_mn (s:S) (k:Int):(leave s k).nx=s.nx∧(leave s k).mn≤s.mn+1:=by
 unfold leave
 split
 ·exact⟨rfl,Int.le_refl _⟩
 ·exact⟨rfl,by omega⟩
def frOf (us:List (List Int)) (stk:List (Int × Int)):Fr:=stk.reverse.map (fun p=>(p.1,(usesOf us p.1).drop p.2.toNat))
theorem frOf_snoc (us:List (List Int)) (q:List (Int × Int)) (t u:Int):frOf us (q++[(t,u)])=(t,(usesOf us t).drop u.toNat)::frOf us q:=by
 unfold frOf
 rw[List.reverse_append]
 rfl
theorem frOf_nil (us:List (List Int)):frOf us []=[]:=(rfl)
theorem frs_len (us:List (List Int)):∀ l:Fr,l.length≤frs l
 | []=>Nat.le_refl _
 | f::l=>by
  have:=frs_len us l
  unfold frs
  simp only[List.length_cons]
  omega
theorem run_stable {U:Int→List Int} {N:Nat} {b B:Int} (hU:∀ v,∀ x∈U v,0≤x∧x<(N:Int)):∀ (j:Nat) (s:S) (fs:Fr),Inv U N b B s fs→mu U N s fs≤j→∀ m,mu U N s fs≤m→run U m s fs=run U (mu U N s fs) s fs
 | j,s,[],I,_,m,_=>by rw[run_nil,run_nil]
 | 0,s,g::fs,I,hj,m,_=>by
  unfold mu frs at hj
  omega
 | j+1,s,g::fs,I,hj,m,hm=>by
  obtain⟨h1,h2⟩:=step_ok hU I
  have hpos:0<mu U N s (g::fs):=by unfold mu frs;omega
  obtain⟨m,rfl⟩:∃ m',m=m'+1:=⟨m - 1,by omega⟩
  obtain⟨d,hd⟩:∃ d,mu U N s (g::fs)=d+1:=⟨mu U N s (g::fs) - 1,by omega⟩
  rw[hd] at h2 hj hm ⊢
  show run U m _ _=run U d _ _
  rw[run_stable hU j _ _ h1 (by omega) m (by omega),run_stable hU j _ _ h1 (by omega) d (by omega)]
theorem run_step {U:Int→List Int} {N:Nat} {b B:Int} (hU:∀ v,∀ x∈U v,0≤x∧x<(N:Int)) {s:S} {g:Int × List Int} {fs:Fr} (I:Inv U N b B s (g::fs)) {s':S} {fs':Fr} (e:step U s (g::fs)=(s',fs')) :
  Inv U N b B s' fs'∧mu U N s' fs'+1≤mu U N s (g::fs)∧run U (mu U N s (g::fs)) s (g::fs)=run U (mu U N s' fs') s' fs':=by
 obtain⟨h1,h2⟩:=step_ok hU I
 rw[e] at h1 h2
 refine⟨h1,h2,?_⟩
 obtain⟨d,hd⟩:∃ d,mu U N s (g::fs)=d+1:=⟨mu U N s (g::fs) - 1,by simp only at h2;omega⟩
 rw[hd]
 show run U d (step U s (g::fs)).1 (step U s (g::fs)).2=_
 rw[e]
 exact run_stable hU d s' fs' h1 (by simp only at h2;omega) d (by simp only at h2;omega)
theorem open_ok {U:Int→List Int} {N:Nat} {b B:Int} {s:S} {fs:Fr} (I:Inv U N b B s fs):(∀ x∈s.op,0≤x∧x<(N:Int))∧s.op.Nodup∧s.op.length≤N:=by
 have h1:∀ x∈s.op,0≤x∧x<(N:Int):=fun x hx=>I.rng x (by have:=(I.lo x hx).2;omega)
 have h2:s.op.Nodup:=I.dec.imp (fun {x y} h e=>by rw[e] at h;omega)
 refine⟨h1,h2,?_⟩
 have:=sub_len s.op (nums N) h2 (fun x hx=>(mem_nums N x).2 (h1 x hx))
 rw[nums_len] at this
 exact this
theorem step_cnt (U:Int→List Int) (s:S):∀ fs:Fr,(step U s fs).1.nx≤s.nx+1∧(step U s fs).1.mn≤s.mn+1
 | []=>⟨by show s.nx≤_;omega,by show s.mn≤_;omega⟩
 | (t,x::r)::fs=>by
  by_cases h:s.o x=0
  ·rw[step_visit h];exact⟨Int.le_refl _,by show s.mn≤_;omega⟩
  ·by_cases hm:x∈s.op
   ·rw[step_back h hm];exact⟨by show s.nx≤_;omega,by show s.mn≤_;omega⟩
   ·rw[step_past h hm];exact⟨by show s.nx≤_;omega,by show s.mn≤_;omega⟩
 | (t,[])::[]=>by
  show (leave s t).nx≤_∧(leave s t).mn≤_
  have:=leave_mn s t
  exact⟨by omega,this.2⟩
 | (t,[])::(u,r)::fs=>by
  show (leave (low s u (s.lw t)) t).nx≤_∧(leave (low s u (s.lw t)) t).mn≤_
  have h:=leave_mn (low s u (s.lw t)) t
  have h1:(low s u (s.lw t)).nx=s.nx:=rfl
  have h2:(low s u (s.lw t)).mn=s.mn:=rfl
  exact⟨by omega,by omega⟩
theorem run_bd {U:Int→List Int} {N:Nat} {b B T:Int} (hU:∀ v,∀ x∈U v,0≤x∧x<(N:Int)):∀ (f:Nat) (s:S) (fs:Fr),Inv U N b B s fs→mu U N s fs≤f→s.nx+(mu U N s fs:Int)≤T→s.mn+(mu U N s fs:Int)≤T →
  (run U f s fs).nx+(unv U (run U f s fs) N:Int)≤T∧(run U f s fs).mn+(unv U (run U f s fs) N:Int)≤T
 | f,s,[],I,_,h1,h2=>by
  rw[run_nil]
  unfold mu frs at h1 h2
  exact⟨by omega,by omega⟩
 | 0,s,g::fs,I,hm,_,_=>by
  unfold mu frs at hm
  omega
 | f+1,s,g::fs,I,hm,h1,h2=>by
  obtain⟨k1,k2⟩:=step_ok hU I
  obtain⟨k3,k4⟩:=step_cnt U s (g::fs)
  exact run_bd hU f _ _ k1 (by omega) (by omega) (by omega)
theorem look_mu (U:Int→List Int) (N:Nat) (s:S) (k:Nat) (hk:k<N) (hn:0≤s.nx) (h0:s.o (k:Int)=0):mu U N (enter s k) [((k:Int),U k)]+1=unv U s N:=by
 have h:=unv_visit U s (enter s k) (k:Int) (s.nx+1) (by omega) rfl h0 N
 rw[if_pos (by omega)] at h
 unfold mu frs frs
 simp only
 omega
theorem look_bd {U:Int→List Int} {N:Nat} {T:Int} (hU:∀ v,∀ x∈U v,0≤x∧x<(N:Int)) {s:S} (R:Rest U N s) {k:Nat} (hk:k<N) (h0:s.o (k:Int)=0) (h1:s.nx+(unv U s N:Int)≤T) (h2:s.mn+(unv U s N:Int)≤T) :
  ((look U N s k).nx+(unv U (look U N s k) N:Int)≤T∧(look U N s k).mn+(unv U (look U N s k) N:Int)≤T) ∧
   s.nx+1+(mu U N (enter s k) [((k:Int),U k)]:Int)≤T∧s.mn+(mu U N (enter s k) [((k:Int),U k)]:Int)≤T:=by
 have hn:0≤s.nx:=by have:=R.hi 0;omega
 have hm:=look_mu U N s k hk hn h0
 have I:=inv_start R (k:=(k:Int)) (by omega) h0
 have e1:(enter s k).nx=s.nx+1:=rfl
 have e2:(enter s k).mn=s.mn:=rfl
 exact⟨run_bd hU _ _ _ I (Nat.le_refl _) (by omega) (by omega),by omega,by omega⟩
theorem find_bd {U:Int→List Int} {N:Nat} (hU:∀ v,∀ x∈U v,0≤x∧x<(N:Int)):∀ m:Nat,m≤N→(find U N m s0).nx+(unv U (find U N m s0) N:Int)≤(unv U s0 N:Int)∧(find U N m s0).mn+(unv U (find U N m s0) N:Int)≤(unv U s0 N:Int)
 | 0,_=>⟨by show (0:Int)+_≤_;exact Int.le_of_eq (Int.zero_add _),by show (0:Int)+_≤_;exact Int.le_of_eq (Int.zero_add _)⟩
 | m+1,hm=>by
  obtain⟨h1,h2⟩:=find_bd hU m (by omega)
  rw[find_succ]
  by_cases h0:(find U N m s0).o (m:Int)=0
  ·rw[if_pos h0]
   exact (look_bd hU (find_ok hU m (by omega)).1 (by omega) h0 h1 h2).1
  ·rw[if_neg h0]
   exact⟨h1,h2⟩
theorem unv_le (U:Int→List Int) (c:Nat) (s:S):∀ m:Nat,(∀ k:Nat,k<m→(U (k:Int)).length≤c)→unv U s m≤m*(c+2)
 | 0,_=>Nat.zero_le _
 | m+1,h=>by
  have ih:=unv_le U c s m (fun k hk=>h k (by omega))
  have h1:=h m (by omega)
  unfold unv
  rw[Nat.succ_mul]
  split<;>omega
end Tarjan
namespace Go.Am
open Go
abbrev fr (p:Int × Int):AV:=.agg [.i .i64 p.1,.i .i64 p.2]
theorem fr_ele (p:Int × Int):Ele (.st 2) (fr p):=ele_st rfl rfl
theorem frs_ele {l:List (Int × Int)}:∀ x∈l.map fr,Ele (.st 2) x:=fun x hx=>by obtain⟨n,_,rfl⟩:=List.mem_map.1 hx;exact fr_ele n
theorem frs_flat (l:List (Int × Int)):((l.map fr).flatMap AV.cells).length=l.length*2:=by
 rw[flat_len frs_ele,List.length_map];rfl
theorem Gr.top {A:Nat→Option (List AV)} {N:Nat} {v:AV} {q:List (Int × Int)} {t w:Int} {d:Option Nat} (h:Gr A N (.st 2) v ((q++[(t,w)]).map fr) d) :
  ∃ a,v=.os a (.st 2) (q.length+1)∧d=some a∧(∀ kd,aiad (.st 2) v (.i kd (q.length:Int))=some (.aref a (q.length*2)))∧(∀ u,aload (wa u A N) .one (.aref a (q.length*2))=some (.i .i64 t))∧(∀ u,aload (wa u A N) .one (.aref a (q.length*2+1))=some (.i .i64 w)) ∧
   ∀ w2,∃ A2,(∀ bs u,astore bs 1 (wa u A N) (.i .i64 w2) (.aref a (q.length*2+1))=some (.un,wa u A2 N))∧Gr A2 N (.st 2) v ((q++[(t,w2)]).map fr) d∧∀ b,b≠a→A2 b=A b:=by
 obtain⟨h0,⟨-,h1,-⟩|⟨a,cs,rfl,h1,h2,h3,rfl⟩⟩:=h
 ·simp at h1
 ·rw[List.length_map,List.length_append,List.length_singleton] at h2 ⊢
  have hfl:=frs_flat q
  have hcs:cs=(q.map fr).flatMap AV.cells++[.i .i64 t,.i .i64 w]++cs.drop ((q.length+1)*2):=by
   have:=List.take_append_drop ((q.length+1)*2) cs
   rw[show cs.take ((q.length+1)*2)=_ from h2] at this
   exact this.symm.trans (by simp;rfl)
  obtain⟨rest,hrest⟩:∃ rest,rest=cs.drop ((q.length+1)*2):=⟨_,rfl⟩
  rw[←hrest] at hcs
  have e0:cs[q.length*2]?=some (.i .i64 t):=by
   rw[hcs,List.append_assoc,List.getElem?_append_right (by omega),hfl,Nat.sub_self];rfl
  have e1:cs[q.length*2+1]?=some (.i .i64 w):=by
   rw[hcs,List.append_assoc,List.getElem?_append_right (by omega),hfl,Nat.add_sub_cancel_left];rfl
  refine⟨a,rfl,rfl,fun kd=>?_,fun u=>?_,fun u=>?_,fun w2=>?_⟩
  ·unfold aiad
   dsimp only
   rw[if_pos ⟨by omega,by omega,rfl⟩,Int.toNat_natCast]
   rfl
  ·show (A a).bind _=_
   rw[h1];exact e0
  ·show (A a).bind _=_
   rw[h1];exact e1
  ·have hlt:q.length*2+1<cs.length:=(List.getElem?_eq_some_iff.1 e1).1
   refine⟨upd A a (some (cs.set (q.length*2+1) (.i .i64 w2))),fun bs u=>?_,⟨frs_ele,.inr ⟨a,_,by simp,upd_same,?_,h3,rfl⟩⟩,fun b hb=>upd_other hb⟩
   ·unfold astore
    show (match A a with|some cs=>_|none=>_)=_
    rw[h1]
    dsimp only
    rw[if_pos ⟨rfl,by decide,by omega,rfl⟩]
    show some (AV.un,wa u (upd A a (some (splice cs (q.length*2+1) [.i .i64 w2]))) N)=_
    rw[splice_one hlt]
   ·rw[List.length_map,List.length_append,List.length_singleton]
    show (cs.set (q.length*2+1) (.i .i64 w2)).take ((q.length+1)*2)=_
    rw[hcs,List.append_assoc,List.set_append_right _ _ (by omega),hfl,Nat.add_sub_cancel_left]
    show ((q.map fr).flatMap AV.cells++(AV.i .i64 t::AV.i .i64 w2::rest)).take _=_
    rw[List.take_append,hfl,show (q.length+1)*2 - q.length*2=2 by omega,List.take_of_length_le (by omega)]
    simp
    rfl
end Go.Am
namespace Go.Am
open Go
open Tarjan (usesOf frOf)
theorem amin_i {k:IntKind} {a b:Int}:amin (.i k a) (.i k b)=some (.i k (min a b)):=by
 show some (AV.i k (if b<a then b else a))=_
 congr 2
 split<;>omega
theorem Fa.lowv {A:Nat→Option (List AV)} {N n k:Nat} {I:Ids} {s:Tarjan.S} {v:AV} {d:Option Nat} (h:Fa A N n I s v d) (hk:k<n) (x:Int) :
  ∃ A2,(∀ bs u,astore bs 1 (wa u A N) (.i .i64 (min (s.lw k) x)) (.aref I.al k)=some (.un,wa u A2 N))∧Fa A2 N n I (Tarjan.low s k x) v d∧∀ a,a≠I.al→A2 a=A a:=by
 obtain⟨⟨n1,n2,n3⟩,⟨n4,n5⟩,n6⟩:=h.ne
 have ho:∀ a,a≠I.al→upd A I.al (some ((tab n fun k=>.i .i64 (s.lw k)).set k (.i .i64 (min (s.lw k) x)))) a=A a:=fun a ha=>upd_other ha
 refine⟨_,fun bs u=>ar_st h.l hk rfl rfl,⟨(ho _ n1).trans h.o,?_,(ho _ n4.symm).trans h.i,(ho _ n5.symm).trans h.g,h.op.mono fun a ha=>⟨ho a fun e=>h.nd a ha (.inr (.inl e)),h.op.lt ha⟩,h.lt,h.nd,h.ne⟩,ho⟩
 rw[upd_same,tab_upd]
 rfl
def uav (L:List (List Int)):AV:=lst .one (L.map fun l=>lst .one (ints l))
theorem uses_iad {L:List (List Int)} {t:Nat} (h:t<L.length) (k:IntKind):aiad .one (uav L) (.i k (t:Int))=some (.ep [lst .one (ints (usesOf L t))] 0):=by
 have:=lst_iad (el:=.one) (el':=.one) (k:=k) (xs:=L.map fun l=>lst .one (ints l)) (i:=t) (x:=lst .one (ints (usesOf L t))) rfl (by
  rw[List.getElem?_map,List.getElem?_eq_getElem h]
  simp[usesOf,List.getD_eq_getElem?_getD,List.getElem?_eq_getElem h])
 rw[lst_cells] at this
 exact this
theorem row_iad {l:List Int} {j:Nat} (h:j<l.length) (k:IntKind):aiad .one (lst .one (ints l)) (.i k (j:Int))=some (.ep [.i .i64 l[j]] 0) :=
 lst_iad (x:=.i .i64 l[j]) rfl (by rw[List.getElem?_map,List.getElem?_eq_getElem h];rfl)
structure LK (A:Nat→Option (List AV)) (N n:Nat) (I:Ids) (d:Option Nat) (L:List (List Int)) (b B T:Int) (fin:Tarjan.S) (A':Nat→Option (List AV)) (N':Nat) (s:Tarjan.S) (v:AV) (d':Option Nat) (stk:List (Int × Int)) (vst:AV) (dst:Option Nat):Prop where
 fa:Fa A' N' n I s v d'
 gr:Gr A' N' (.st 2) vst (stk.map fr) dst
 ds:∀ a,dst=some a→¬ I.has a∧d'≠some a∧N≤a
 le:N≤N'
 off:Off I d N A A'
 dd:∀ a,d'=some a→d=some a∨N≤a
 inv:Tarjan.Inv (usesOf L) n b B s (frOf L stk)
 run:Tarjan.run (usesOf L) (Tarjan.mu (usesOf L) n s (frOf L stk)) s (frOf L stk)=fin
 rng:∀ p∈stk,0≤p.2∧0≤p.1∧p.1<n
 nx:s.nx+Tarjan.mu (usesOf L) n s (frOf L stk)≤T
 mn:s.mn+Tarjan.mu (usesOf L) n s (frOf L stk)≤T
section
variable {A:Nat→Option (List AV)} {N n:Nat} {I:Ids} {d:Option Nat} {L:List (List Int)} {b B T:Int} {fin:Tarjan.S} {A':Nat→Option (List AV)} {N':Nat} {s:Tarjan.S} {v:AV} {d':Option Nat} {stk:List (Int × Int)} {vst:AV} {dst:Option Nat}
theorem LK.go {A2:Nat→Option (List AV)} {N2:Nat} {s2:Tarjan.S} {v2:AV} {d2:Option Nat} {stk2:List (Int × Int)} {vst2:AV} {dst2:Option Nat} (hU:∀ v,∀ x∈usesOf L v,0≤x∧x<(n:Int)) (h:LK A N n I d L b B T fin A' N' s v d' stk vst dst) (hne:stk≠[])
  (e:Tarjan.step (usesOf L) s (frOf L stk)=(s2,frOf L stk2)) (fa:Fa A2 N2 n I s2 v2 d2) (gr:Gr A2 N2 (.st 2) vst2 (stk2.map fr) dst2) (ds:∀ a,dst2=some a→¬ I.has a∧d2≠some a∧N≤a) (le:N'≤N2) (off:Off I d N A A2) (dd:∀ a,d2=some a→d=some a∨N≤a) (rng:∀ p∈stk2,0≤p.2∧0≤p.1∧p.1<n) :
  LK A N n I d L b B T fin A2 N2 s2 v2 d2 stk2 vst2 dst2∧Tarjan.mu (usesOf L) n s2 (frOf L stk2)+1≤Tarjan.mu (usesOf L) n s (frOf L stk):=by
 have hc:=Tarjan.step_cnt (usesOf L) s (frOf L stk)
 have hinv:=h.inv
 have hrun:=h.run
 have h1:=h.nx
 have h2:=h.mn
 cases hf:frOf L stk with
 | nil =>
  have:=congrArg List.length hf
  unfold frOf at this
  simp at this
  exact absurd this hne
 | cons g fs =>
  rw[hf] at e hinv hrun h1 h2 hc
  obtain⟨k1,k2,k3⟩:=Tarjan.run_step hU hinv e
  rw[e] at hc
  simp only at hc
  exact⟨⟨fa,gr,ds,Nat.le_trans h.le le,off,dd,k1,k3.symm.trans hrun,rng,by omega,by omega⟩,k2⟩
theorem LK.wst {A2:Nat→Option (List AV)} {vst2:AV} {dst2:Option Nat} (h:LK A N n I d L b B T fin A' N' s v d' stk vst dst) (hA:∀ a,dst≠some a→A2 a=A' a):Fa A2 N' n I s v d'∧Off I d N A A2:=by
 refine⟨h.fa.mono fun a ha=>⟨hA a fun e=>?_,?_⟩,fun a h1 h2 h3=>(hA a fun e=>by have:=(h.ds a e).2.2;omega).trans (h.off a h1 h2 h3)⟩
 ·rcases ha with ha|ha
  ·exact (h.ds a e).1 ha
  ·exact (h.ds a e).2.1 ha
 ·rcases ha with ha|ha
  ·exact h.fa.lt a ha
  ·exact h.fa.op.lt ha
end
end Go.Am
namespace Go.Am
open Go
open Tarjan (usesOf frOf)
theorem seg_len {U:Int→List Int} {s:Tarjan.S} {fs:Tarjan.Fr} {l:List Int} (h:Tarjan.Seg U s fs l):fs.length≤l.length:=by
 induction h with
 | nil=>exact Nat.le_refl _
 | @cons t r fs a rest pre _ h1 h2 h3 ih=>simp;omega
theorem inner_w {u:St} {A:Nat→Option (List AV)} {N n r:Nat} {I:Ids} {d:Option Nat} {L:List (List Int)} {b B T:Int} {fin:Tarjan.S} {v0:AV} {s0:Tarjan.S} (bs:Nat) (ho:obj u r=some (fob (uav L) n I s0 v0)) (hL:L.length=n) (hn:n≤100000) (hT:T≤9000000000) (hlen:∀ t,(usesOf L t).length≤10000000) (hU:∀ v,∀ x∈usesOf L v,0≤x∧x<(n:Int)) (M:Nat)
  {A':Nat→Option (List AV)} {N':Nat} {s:Tarjan.S} {v:AV} {d':Option Nat} {q:List (Int × Int)} {t w:Int} {vst:AV} {a:Nat} (hK:LK A N n I d L b B T fin A' N' s v d' (q++[(t,w)]) vst (some a)) (hM:Tarjan.mu (usesOf L) n s (frOf L (q++[(t,w)]))≤M) (ex:Env) :
  W (E F1 X1 bs l83_0 ([(0,.ref r 0),(4,vst),(5,.aref a (q.length*2))]++ex) (wa (setOb u r (fob (uav L) n I s v)) A' N')) fun z =>
   (∃ A' N' s v d' w ex,z=(.exit 2,[(0,.ref r 0),(4,vst),(5,.aref a (q.length*2))]++ex,wa (setOb u r (fob (uav L) n I s v)) A' N')∧LK A N n I d L b B T fin A' N' s v d' (q++[(t,w)]) vst (some a)∧(usesOf L t).drop w.toNat=[]∧Tarjan.mu (usesOf L) n s (frOf L (q++[(t,w)]))≤M) ∨
   (∃ A' N' s v d' stk vst dst ex,z=(.exit 1,[(0,.ref r 0),(4,vst)]++ex,wa (setOb u r (fob (uav L) n I s v)) A' N')∧LK A N n I d L b B T fin A' N' s v d' stk vst dst∧Tarjan.mu (usesOf L) n s (frOf L stk)<M):=by
 refine W.loop (L:=l83_0) rfl (fun m e z=>∃ A' N' s v d' w ex,m=Tarjan.mu (usesOf L) n s (frOf L (q++[(t,w)]))∧e=[(0,.ref r 0),(4,vst),(5,.aref a (q.length*2))]++ex∧z=wa (setOb u r (fob (uav L) n I s v)) A' N'∧LK A N n I d L b B T fin A' N' s v d' (q++[(t,w)]) vst (some a)∧m≤M) ?_ _ _ _ ⟨A',N',s,v,d',w,ex,rfl,rfl,rfl,hK,hM⟩
 clear hK hM
 rintro m e z ⟨A',N',s,v,d',w,ex,rfl,rfl,rfl,hK,hM⟩
 have hr:=obj_lt ho
 obtain⟨hw0,ht0,htn⟩:=hK.rng (t,w) (by simp)
 obtain⟨wn,rfl⟩:=Int.eq_ofNat_of_zero_le hw0
 obtain⟨tn,rfl⟩:=Int.eq_ofNat_of_zero_le ht0
 simp only at hw0 ht0 htn
 have htn':tn<n:=by omega
 obtain⟨a',hv,ha',-,g2,g3,g4⟩:=hK.gr.top
 injection ha' with ha'
 subst ha'
 obtain⟨A1,s1,s2,s3⟩:=g4 ((wn+1:Nat):Int)
 have hui:=@uses_iad L tn (by omega)
 have hw1:=@wrap_one wn
 obtain⟨F1a,off1⟩:=hK.wst (A2:=A1) (vst2:=vst) (dst2:=some a) (fun b hb=>s3 b fun e=>hb (by rw[e]))
 have hln:=hlen (tn:Int)
 have hvl:∀ m,vst.low m=true:=hK.gr.low
 have hlen2:∀ l:List Int,alen false (lst .one (ints l))=some (.i .i64 (l.length:Nat)):=fun l=>by rw[len_lst,List.length_map]
 have hopn:=Tarjan.open_ok hK.inv
 have hinv:=hK.inv
 rw[Tarjan.frOf_snoc] at hinv
 unfold fob
 simp only[go_sem,reduceCtorEq,↓reduceIte,nA,nB,nC,nD,nE,iA,iB,iC,iD,iE,iF,hr,g2,g3,hui,hlen2,hvl]
 refine W.ifc (fun dd=>?_) (fun dd=>?_)
 ·have hlt:wn<(usesOf L (tn:Int)).length:=by simpa using dd
  have hri:=row_iad hlt
  obtain⟨hx0,hxn⟩:=hU tn _ (List.getElem_mem hlt)
  generalize hxx:(usesOf L (tn:Int))[wn]=x at hri hx0 hxn
  obtain⟨xn,rfl⟩:=Int.eq_ofNat_of_zero_le hx0
  have hxn':xn<n:=by omega
  have hi:=@ar_iad n
  have o1:∀ u,aload (wa u A1 N') .one (.aref I.ao xn)=some (.i .i64 (s.o xn)):=fun u=>ar_ld F1a.o hxn'
  have i1:∀ u,aload (wa u A1 N') .one (.aref I.ai xn)=some (.b (decide ((xn:Int)∈s.op))):=fun u=>ar_ld F1a.i hxn'
  have lx:∀ u,aload (wa u A1 N') .one (.aref I.al tn)=some (.i .i64 (s.lw tn)):=fun u=>ar_ld F1a.l htn'
  have g2':∀ u,aload (wa u A1 N') .one (.aref a (q.length*2))=some (.i .i64 (tn:Int)):=by
   obtain⟨a2,-,h2,-,h4,-⟩:=s2.top
   injection h2 with h2
   subst h2
   exact h4
  have hdrop:(usesOf L (tn:Int)).drop wn=(xn:Int)::(usesOf L (tn:Int)).drop (wn+1):=by rw[List.drop_eq_getElem_cons hlt,hxx]
  have hfr:frOf L (q++[((tn:Int),(wn:Int))])=((tn:Int),(xn:Int)::(usesOf L (tn:Int)).drop (wn+1))::frOf L q:=by rw[Tarjan.frOf_snoc,Int.toNat_natCast,hdrop]
  have hfr2:frOf L (q++[((tn:Int),((wn+1:Nat):Int))])=((tn:Int),(usesOf L (tn:Int)).drop (wn+1))::frOf L q:=by rw[Tarjan.frOf_snoc,Int.toNat_natCast]
  have hrng2:∀ p∈q++[((tn:Int),((wn+1:Nat):Int))],0≤p.2∧0≤p.1∧p.1<n:=fun p hp=>by
   rcases List.mem_append.1 hp with hp|hp
   ·exact hK.rng p (List.mem_append_left _ hp)
   ·rw[List.mem_singleton.1 hp];exact⟨by simp only;omega,ht0,htn⟩
  simp only[go_sem,reduceCtorEq,↓reduceIte,nA,nB,nC,nD,nE,iA,iB,iC,iD,iE,iF,dd,hr,g2,g3,hui,hlen2,hvl,hri,s1,hw1 (by omega),hi hxn',hi htn',o1,i1,lx,g2',amin_i]
  refine W.ifc (fun d2=>?_) (fun d2=>?_)
  ·have h0:s.o xn=0:=by simpa using d2
   simp only[go_sem,reduceCtorEq,↓reduceIte,nA,nB,nC,nD,nE,iA,iB,iC,iD,iE,iF,d2]
   have hnx:=hK.nx
   have hnx0:=hK.inv.hi 0
   have ho1:obj (setOb u r (fob (uav L) n I s v)) r=some (fob (uav L) n I s v):=obj_set hr
   refine W.step (enter_w ho1 F1a hxn' hn hopn.2.2 ⟨by omega,by omega⟩ h0) ?_
   rintro _ ⟨A2,N2,v2,e2,rfl,FA2,le2,off2,dd2⟩
   obtain⟨ds1,ds2,ds3⟩:=hK.ds a rfl
   have ha2:e2≠some a:=fun e=>by
    rcases dd2 a e with h|h
    ·exact ds2 h
    ·have:=s2.lt rfl;omega
   have gr2:Gr A2 N2 (.st 2) vst ((q++[((tn:Int),((wn+1:Nat):Int))]).map fr) (some a):=s2.mono fun b hb=>by
    injection hb with hb
    subst hb
    have:=s2.lt rfl
    exact⟨off2 a this ds1 ds2,by omega⟩
   have hsl:q.length+1≤n:=by
    have h1:=seg_len hK.inv.seg
    unfold frOf at h1
    simp at h1
    have:=hopn.2.2
    omega
   obtain⟨vst2,A3,N3,dst2,p1,p2,p3,p4,p5,p6⟩:=gr2.push' (y:=fr ((xn:Int),0)) [.i .i64 (xn:Int),.i .i64 0] rfl (fr_ele _) (by simp;unfold most;omega)
   have p2':Gr A3 N3 (.st 2) vst2 (((q++[((tn:Int),((wn+1:Nat):Int))])++[((xn:Int),(0:Int))]).map fr) dst2:=by rw[List.map_append];exact p2
   have hvl2:=p2.low
   simp only[go_sem,reduceCtorEq,↓reduceIte,nA,nB,nC,nD,nE,iA,iB,iC,iD,iE,iF,hr,hvl,hvl2,p1]
   have hgo:=hK.go (A2:=A3) (N2:=N3) (s2:=Tarjan.enter s xn) (v2:=v2) (d2:=e2) (stk2:=(q++[((tn:Int),((wn+1:Nat):Int))])++[((xn:Int),(0:Int))]) (vst2:=vst2) (dst2:=dst2) hU (by simp) (by rw[hfr,Tarjan.step_visit h0,Tarjan.frOf_snoc,hfr2];rfl) (FA2.mono fun b hb=>by
     have hlt:b<N2:=by
      rcases hb with hb|hb
      ·exact FA2.lt b hb
      ·exact FA2.op.lt hb
     exact⟨p4 b hlt fun e=>by
      injection e with e
      subst e
      rcases hb with hb|hb
      ·exact ds1 hb
      ·exact ha2 hb,by omega⟩) p2' (fun b hb=>by
     have h1:=p5 b hb
     have h2:=hK.le
     exact⟨fun h=>by have:=FA2.lt b h;omega,fun h=>by have:=FA2.op.lt h;omega,by omega⟩) (by omega) (fun b h1 h2 h3=>by
     have h4:=hK.le
     rw[p4 b (by omega) (fun e=>by injection e with e;omega),off2 b (by omega) h2 (fun e=>by
      rcases hK.dd b e with h|h
      ·exact h3 h
      ·omega)]
     exact off1 b h1 h2 h3) (fun b hb=>by
     rcases dd2 b hb with h|h
     ·exact hK.dd b h
     ·have:=hK.le;exact .inr (by omega)) (fun p hp=>by
     rcases List.mem_append.1 hp with hp|hp
     ·exact hrng2 p hp
     ·rw[List.mem_singleton.1 hp];exact⟨Int.le_refl _,hx0,hxn⟩)
   exact .inr ⟨A3,N3,_,v2,e2,_,vst2,dst2,_,rfl,hgo.1,by omega⟩
  ·have h0:s.o xn≠0:=by simpa using d2
   simp only[go_sem,reduceCtorEq,↓reduceIte,nA,nB,nC,nD,nE,iA,iB,iC,iD,iE,iF,d2,hr,hi hxn',i1,hvl]
   refine W.ifc (fun d3=>?_) (fun d3=>?_)
   ·have hm:(xn:Int)∈s.op:=by simpa using d3
    obtain⟨A2,t1,t2,t3⟩:=F1a.lowv htn' (s.o xn)
    simp only[go_sem,reduceCtorEq,↓reduceIte,nA,nB,nC,nD,nE,iA,iB,iC,iD,iE,iF,d3,hr,hi hxn',hi htn',o1,lx,g2',amin_i,t1,hvl]
    obtain⟨ds1,ds2,ds3⟩:=hK.ds a rfl
    have hgo:=hK.go (A2:=A2) (N2:=N') (s2:=Tarjan.low s tn (s.o xn)) (v2:=v) (d2:=d') (stk2:=q++[((tn:Int),((wn+1:Nat):Int))]) (vst2:=vst) (dst2:=some a) hU (by simp) (by rw[hfr,Tarjan.step_back h0 hm,hfr2]) t2 (s2.mono fun b hb=>by
     injection hb with hb
     subst hb
     exact⟨t3 a fun e=>ds1 (.inr (.inl e)),s2.lt rfl⟩) hK.ds (Nat.le_refl _) (fun b h1 h2 h3=>(t3 b fun e=>h2 (.inr (.inl e))).trans (off1 b h1 h2 h3)) hK.dd hrng2
    exact⟨_,hgo.2,A2,N',_,v,d',_,_,rfl,rfl,rfl,hgo.1,by omega⟩
   ·have hm:(xn:Int)∉s.op:=by simpa using d3
    simp only[go_sem,reduceCtorEq,↓reduceIte,nA,nB,nC,nD,nE,iA,iB,iC,iD,iE,iF,d3,hvl]
    have hgo:=hK.go (A2:=A1) (N2:=N') (s2:=s) (v2:=v) (d2:=d') (stk2:=q++[((tn:Int),((wn+1:Nat):Int))]) (vst2:=vst) (dst2:=some a) hU (by simp) (by rw[hfr,Tarjan.step_past h0 hm,hfr2]) F1a s2 hK.ds (Nat.le_refl _) off1 hK.dd hrng2
    exact⟨_,hgo.2,A1,N',_,v,d',_,_,rfl,rfl,rfl,hgo.1,by omega⟩
 ·have hge:(usesOf L (tn:Int)).length≤wn:=by simpa using dd
  simp only[go_sem,reduceCtorEq,↓reduceIte,nA,nB,nC,nD,nE,iA,iB,iC,iD,iE,iF,dd,hvl]
  exact .inl ⟨A',N',s,v,d',(wn:Int),_,rfl,hK,List.drop_eq_nil_of_le (by simpa using hge),hM⟩
end Go.Am
namespace Go.Am
open Go
open Tarjan (usesOf frOf)
theorem look_w {u:St} {A:Nat→Option (List AV)} {N n r k:Nat} {I:Ids} {d:Option Nat} {L:List (List Int)} {T:Int} {s:Tarjan.S} {v:AV} (ho:obj u r=some (fob (uav L) n I s v)) (hF:Fa A N n I s v d) (hL:L.length=n) (hn:n≤100000) (hT:T≤9000000000) (hlen:∀ t,(usesOf L t).length≤10000000) (hU:∀ v,∀ x∈usesOf L v,0≤x∧x<(n:Int))
  (hR:Tarjan.Rest (usesOf L) n s) (hk:k<n) (h0:s.o k=0) (h1:s.nx+(Tarjan.unv (usesOf L) s n:Int)≤T) (h2:s.mn+(Tarjan.unv (usesOf L) s n:Int)≤T) :
  W (C F1 X1 83 [.ref r 0,.i .i64 (k:Int)] (wa u A N)) fun q=>∃ A' N' v' d',q=(.tup [],wa (setOb u r (fob (uav L) n I (Tarjan.look (usesOf L) n s k) v')) A' N')∧Fa A' N' n I (Tarjan.look (usesOf L) n s k) v' d'∧N≤N'∧Off I d N A A'∧(∀ a,d'=some a→d=some a∨N≤a):=by
 have hr:=obj_lt ho
 have hI0:=Tarjan.inv_start hR (k:=(k:Int)) ⟨by omega,by omega⟩ h0
 have hbd:=(Tarjan.look_bd hU hR hk h0 h1 h2).2
 have hopn:=Tarjan.open_ok hI0
 have hnx0:=hI0.hi 0
 rw[w_call (f:=83) rfl]
 simp only[go_sem,reduceCtorEq,↓reduceIte,nA,nB,nC,nD,nE,iA,iB,iC,iD,iE,iF,hr]
 have hopl:s.op.length≤n:=by
  have:=hopn.2.2
  have e:(Tarjan.enter s k).op=(k:Int)::s.op:=rfl
  rw[e] at this
  simp at this
  omega
 have hnn:=hR.hi 0
 refine W.step (enter_w ho hF hk hn hopl ⟨by omega,by omega⟩ h0) ?_
 rintro _ ⟨A1,N1,v1,d1,rfl,FA1,le1,off1,dd1⟩
 simp only[go_sem,reduceCtorEq,↓reduceIte,nA,nB,nC,nD,nE,iA,iB,iC,iD,iE,iF,hr]
 rw[newAr_wa2]
 have hst0:frOf L [((k:Int),(0:Int))]=[((k:Int),usesOf L k)]:=rfl
 have K0:LK A N n I d L k (s.nx+1) T (Tarjan.look (usesOf L) n s k) (upd A1 N1 (some [.i .i64 (k:Int),.i .i64 0])) (N1+1) (Tarjan.enter s k) v1 d1 [((k:Int),(0:Int))] (.os N1 (.st 2) 1) (some N1):=by
  have hA:∀ a,a<N1→upd A1 N1 (some [.i .i64 (k:Int),.i .i64 0]) a=A1 a:=fun a ha=>upd_other (by omega)
  refine⟨FA1.mono fun a ha=>?_,⟨frs_ele,.inr ⟨N1,_,rfl,upd_same,rfl,by omega,rfl⟩⟩,fun a ha=>?_,by omega,fun a g1 g2 g3=>(hA a (by omega)).trans (off1 a g1 g2 g3),dd1,hI0,rfl,fun p hp=>?_,hbd.1,hbd.2⟩
  ·have hlt:a<N1:=by
    rcases ha with ha|ha
    ·exact FA1.lt a ha
    ·exact FA1.op.lt ha
   exact⟨hA a hlt,by omega⟩
  ·injection ha with ha
   subst ha
   exact⟨fun h=>by have:=FA1.lt _ h;omega,fun h=>by have:=FA1.op.lt h;omega,le1⟩
  ·rw[List.mem_singleton.1 hp];exact⟨Int.le_refl _,by simp only;omega,by simp only;omega⟩
 refine W.step (W.loop (L:=l83_1) (Q:=fun z=>∃ A' N' v' d' ex,z=(.exit 0,[(0,.ref r 0)]++ex,wa (setOb u r (fob (uav L) n I (Tarjan.look (usesOf L) n s k) v')) A' N')∧Fa A' N' n I (Tarjan.look (usesOf L) n s k) v' d'∧N≤N'∧Off I d N A A'∧(∀ a,d'=some a→d=some a∨N≤a)) rfl (fun m e z=>∃ A' N' s' v' d' stk vst dst ex,m=Tarjan.mu (usesOf L) n s' (frOf L stk)∧e=[(0,.ref r 0),(4,vst)]++ex∧z=wa (setOb u r (fob (uav L) n I s' v')) A' N'∧LK A N n I d L k (s.nx+1) T (Tarjan.look (usesOf L) n s k) A' N' s' v' d' stk vst dst) ?_ _ _ _ ⟨_,_,_,v1,d1,_,_,_,[],rfl,rfl,rfl,K0⟩) ?_
 ·clear K0
  rintro m e z ⟨A',N',s',v',d',stk,vst,dst,ex,rfl,rfl,rfl,hK⟩
  have hvl:=hK.gr.low
  have hlv:=hK.gr.len
  rw[List.length_map] at hlv
  simp only[go_sem,reduceCtorEq,↓reduceIte,nA,nB,nC,nD,nE,iA,iB,iC,iD,iE,iF,hr,hlv,hvl]
  refine W.ifc (fun dd=>?_) (fun dd=>?_)
  ·have hne:stk≠[]:=fun e=>by subst e;simp at dd
   obtain⟨q,⟨t,w⟩,rfl⟩:∃ q p,stk=q++[p]:=⟨stk.dropLast,stk.getLast hne,(List.dropLast_concat_getLast hne).symm⟩
   rw[List.length_append,List.length_singleton] at hlv
   obtain⟨a,hv,rfl,g1,-,-,-⟩:=hK.gr.top
   have hsl:q.length+1≤n:=by
    have h1:=seg_len hK.inv.seg
    unfold frOf at h1
    simp at h1
    have:=(Tarjan.open_ok hK.inv).2.2
    omega
   have hw1:IntKind.i64.wrap (((q.length+1:Nat):Int) - 1)=(q.length:Int):=by rw[←wrap_nat (n:=q.length) (by omega)];congr 1;omega
   simp only[go_sem,reduceCtorEq,↓reduceIte,nA,nB,nC,nD,nE,iA,iB,iC,iD,iE,iF,dd,hr,hlv,hvl,hw1,g1]
   refine W.step (inner_w (cnt u) ho hL hn hT hlen hU _ hK (Nat.le_refl _) []) ?_
   rintro _ (⟨A2,N2,s2,v2,d2,w2,ex2,rfl,hK2,hdr,hm2⟩|⟨A2,N2,s2,v2,d2,stk2,vst2,dst2,ex2,rfl,hK2,hm2⟩)
   ·obtain⟨a',-,ha',-,g2,-,-⟩:=hK2.gr.top
    injection ha' with ha'
    subst ha'
    obtain⟨v3,c1,c2⟩:=hK2.gr.cut (n:=q.length) (by simp) (k:=.i64)
    have c3:Gr A2 N2 (.st 2) v3 (q.map fr) (some a):=by
     have e:((q++[(t,w2)]).map fr).take q.length=q.map fr:=by rw[List.map_append,List.take_append_of_le_length (by simp),List.take_of_length_le (by simp)]
     rw[←e];exact c2
    have hv3:=c3.low
    have hl3:=c3.len
    rw[List.length_map] at hl3
    obtain⟨hw0,ht0,htn⟩:=hK2.rng (t,w2) (by simp)
    simp only at ht0 htn
    obtain⟨tn,rfl⟩:=Int.eq_ofNat_of_zero_le ht0
    have htn':tn<n:=by omega
    have hop2:=Tarjan.open_ok hK2.inv
    have hin:(tn:Int)∈s2.op:=by
     have:=hK2.inv.seg.frame_mem ((tn:Int),(usesOf L (tn:Int)).drop w2.toNat) (by rw[Tarjan.frOf_snoc];simp)
     exact this
    have hfr:frOf L (q++[((tn:Int),w2)])=((tn:Int),[])::frOf L q:=by rw[Tarjan.frOf_snoc,hdr]
    have hmn:=hK2.mn
    have hnx:=hK2.nx
    have hi:=@ar_iad n
    obtain⟨ds1,ds2,ds3⟩:=hK2.ds a rfl
    unfold fob
    simp only[go_sem,reduceCtorEq,↓reduceIte,nA,nB,nC,nD,nE,iA,iB,iC,iD,iE,iF,hr,hvl,hlv,hw1,g2,c1,hv3,hl3]
    refine W.ifc (fun de=>?_) (fun de=>?_)
    ·have hqn:q≠[]:=fun e=>by subst e;simp at de
     obtain⟨q2,⟨x,wx⟩,rfl⟩:∃ q' p,q=q'++[p]:=⟨q.dropLast,q.getLast hqn,(List.dropLast_concat_getLast hqn).symm⟩
     obtain⟨a3,hv4,ha3,i1,i2,-,-⟩:=c3.top
     have hw2:IntKind.i64.wrap ((((q2++[(x,wx)]).length:Nat):Int) - 1)=(q2.length:Int):=by
      rw[List.length_append,List.length_singleton]
      rw[←wrap_nat (n:=q2.length) (by simp at hsl;omega)];congr 1;omega
     obtain⟨hwx0,hx0,hxn⟩:=hK2.rng (x,wx) (by simp)
     simp only at hx0 hxn
     obtain⟨xn,rfl⟩:=Int.eq_ofNat_of_zero_le hx0
     have hxn':xn<n:=by omega
     have lx:∀ u,aload (wa u A2 N2) .one (.aref I.al xn)=some (.i .i64 (s2.lw xn)):=fun u=>ar_ld hK2.fa.l hxn'
     have lt:∀ u,aload (wa u A2 N2) .one (.aref I.al tn)=some (.i .i64 (s2.lw tn)):=fun u=>ar_ld hK2.fa.l htn'
     obtain⟨A3,t1,t2,t3⟩:=hK2.fa.lowv hxn' (s2.lw tn)
     have hmi:=@amin_i .i64 (s2.lw xn) (s2.lw tn)
     simp only[go_sem,reduceCtorEq,↓reduceIte,nA,nB,nC,nD,nE,iA,iB,iC,iD,iE,iF,de,hr,hw2,i1,i2,hi hxn',hi htn',lx,lt,hmi,t1,hv3]
     have ho1:obj (setOb u r (fob (uav L) n I (Tarjan.low s2 xn (s2.lw tn)) v2)) r=some (fob (uav L) n I (Tarjan.low s2 xn (s2.lw tn)) v2):=obj_set hr
     refine W.step (leave_w ho1 t2 htn' hn hin hop2.1 hop2.2.1 hop2.2.2 ⟨hK2.inv.mn0,by show s2.mn<_;omega⟩) ?_
     rintro _ ⟨A4,N4,v4,d4,rfl,FA4,le4,off4,dd4⟩
     simp only[go_sem,reduceCtorEq,↓reduceIte,nA,nB,nC,nD,nE,iA,iB,iC,iD,iE,iF,hr,hv3]
     have c4:Gr A3 N2 (.st 2) v3 ((q2++[((xn:Int),wx)]).map fr) (some a):=c3.mono fun b hb=>by
      injection hb with hb
      subst hb
      exact⟨t3 a fun e=>ds1 (.inr (.inl e)),c3.lt rfl⟩
     have hgo:=hK2.go (A2:=A4) (N2:=N4) (s2:=Tarjan.leave (Tarjan.low s2 xn (s2.lw tn)) tn) (v2:=v4) (d2:=d4) (stk2:=q2++[((xn:Int),wx)]) (vst2:=v3) (dst2:=some a) hU (by simp) (by rw[hfr,Tarjan.frOf_snoc];rfl) FA4 (c4.mono fun b hb=>by
      injection hb with hb
      subst hb
      have:=c4.lt rfl
      exact⟨off4 a this ds1 ds2,by omega⟩) (fun b hb=>by
      injection hb with hb
      subst hb
      refine⟨ds1,fun e=>?_,ds3⟩
      rcases dd4 a e with h|h
      ·exact ds2 h
      ·have:=c4.lt rfl;omega) le4 (fun b h1 h2 h3=>by
      have h4:=hK2.le
      rw[off4 b (by omega) h2 (fun e=>by
       rcases hK2.dd b e with h|h
       ·exact h3 h
       ·omega),t3 b (fun e=>h2 (.inr (.inl e)))]
      exact hK2.off b h1 h2 h3) (fun b hb=>by
      rcases dd4 b hb with h|h
      ·exact hK2.dd b h
      ·have:=hK2.le;exact .inr (by omega)) (fun p hp=>hK2.rng p (List.mem_append_left _ hp))
     exact⟨_,Nat.le_trans hgo.2 hm2,A4,N4,_,v4,d4,_,v3,some a,_,rfl,rfl,rfl,hgo.1⟩
    ·have hqn:q=[]:=by cases q with|nil=>rfl|cons p q=>simp at de<;>omega
     subst hqn
     simp only[go_sem,reduceCtorEq,↓reduceIte,nA,nB,nC,nD,nE,iA,iB,iC,iD,iE,iF,de,hr,hv3]
     have ho1:obj (setOb u r (fob (uav L) n I s2 v2)) r=some (fob (uav L) n I s2 v2):=obj_set hr
     refine W.step (leave_w ho1 hK2.fa htn' hn hin hop2.1 hop2.2.1 hop2.2.2 ⟨hK2.inv.mn0,by omega⟩) ?_
     rintro _ ⟨A4,N4,v4,d4,rfl,FA4,le4,off4,dd4⟩
     simp only[go_sem,reduceCtorEq,↓reduceIte,nA,nB,nC,nD,nE,iA,iB,iC,iD,iE,iF,hr,hv3]
     have hgo:=hK2.go (A2:=A4) (N2:=N4) (s2:=Tarjan.leave s2 tn) (v2:=v4) (d2:=d4) (stk2:=[]) (vst2:=v3) (dst2:=some a) hU (by simp) (by rw[hfr];rfl) FA4 (c3.mono fun b hb=>by
      injection hb with hb
      subst hb
      have:=c3.lt rfl
      exact⟨off4 a this ds1 ds2,by omega⟩) (fun b hb=>by
      injection hb with hb
      subst hb
      refine⟨ds1,fun e=>?_,ds3⟩
      rcases dd4 a e with h|h
      ·exact ds2 h
      ·have:=c3.lt rfl;omega) le4 (fun b h1 h2 h3=>by
      have h4:=hK2.le
      rw[off4 b (by omega) h2 (fun e=>by
       rcases hK2.dd b e with h|h
       ·exact h3 h
       ·omega)]
      exact hK2.off b h1 h2 h3) (fun b hb=>by
      rcases dd4 b hb with h|h
      ·exact hK2.dd b h
      ·have:=hK2.le;exact .inr (by omega)) (fun p hp=>by cases hp)
     exact⟨_,Nat.le_trans hgo.2 hm2,A4,N4,_,v4,d4,_,v3,some a,_,rfl,rfl,rfl,hgo.1⟩
   ·have hvl2:=hK2.gr.low
    simp only[go_sem,reduceCtorEq,↓reduceIte,nA,nB,nC,nD,nE,iA,iB,iC,iD,iE,iF,hvl2]
    exact⟨_,hm2,A2,N2,s2,v2,d2,stk2,vst2,dst2,_,rfl,rfl,rfl,hK2⟩
  ·have hnil:stk=[]:=by cases stk with|nil=>rfl|cons p q=>simp at dd<;>omega
   subst hnil
   simp only[go_sem,reduceCtorEq,↓reduceIte,nA,nB,nC,nD,nE,iA,iB,iC,iD,iE,iF,dd]
   have hfin:=hK.run
   have e0:frOf L []=[]:=rfl
   rw[e0,Tarjan.run_nil] at hfin
   subst hfin
   exact⟨A',N',v',d',_,rfl,hK.fa,hK.le,hK.off,hK.dd⟩
 ·rintro _ ⟨A',N',v',d',ex,rfl,FA,le,off,dd⟩
  simp only[go_sem,reduceCtorEq,↓reduceIte,nA,nB,nC,nD,nE,iA,iB,iC,iD,iE,iF]
  obtain⟨A2,N2,b1,b2,b3,b4⟩:=hF.back (x:=.tup []) FA le off ho dd
  exact⟨A2,N2,v',d',congrArg (Prod.mk (AV.tup [])) b1,b2,b3,b4,dd⟩
end Go.Am
namespace Go.Am
open Go
open Tarjan (usesOf frOf)
theorem uav_len {L:List (List Int)}:alen false (uav L)=some (.i .i64 (L.length:Nat)):=by unfold uav;rw[len_lst,List.length_map]
theorem uav_low {L:List (List Int)} {n:Nat}:(uav L).low n=true:=lst_low
theorem uav_cells {L:List (List Int)}:(uav L).cells=[uav L]:=lst_cells
theorem row_len {l:List Int}:alen false (lst .one (ints l))=some (.i .i64 (l.length:Nat)):=by rw[len_lst,List.length_map]
theorem right_w {L:List (List Int)} (hL:L.length≤2048) (hlen:∀ t,(usesOf L t).length≤10000000) (hU:∀ v,∀ x∈usesOf L v,0≤x∧x<(L.length:Int)) (s:St):W (C F1 X1 48 [uav L] s) (· = (.i .i64 0,s)):=by
 have h1:decide ((L.length:Int)>2048)=false:=by simp;omega
 rw[w_call (f:=48) rfl]
 simp only[go_sem,reduceCtorEq,↓reduceIte,nA,nB,nC,nD,nE,iA,iB,iC,iD,iE,iF,uav_len,h1]
 refine W.step (W.range (n:=L.length) (L:=l48_1) (Q:=fun q=>∃ ex,q=(.exit 0,ex,s)) rfl (fun i e t=>e=[(0,uav L),(10,uav L),(11,.i .i64 (L.length:Int)),(12,.i .i64 (i:Int))]∧t=s) ?_ ?_ 0 _ _ (Nat.zero_le _) ⟨rfl,rfl⟩) ?_
 ·rintro i e t ⟨rfl,rfl⟩ hi
  have g1:=@uses_iad L i hi
  have g3:decide ((i:Int)<(L.length:Int))=true:=by simp;omega
  have g5:=@wrap_one i (by omega)
  have hln:=hlen (i:Int)
  simp only[go_sem,reduceCtorEq,↓reduceIte,nA,nB,nC,nD,nE,iA,iB,iC,iD,iE,iF,g1,g3,uav_low,lst_low,row_len]
  obtain⟨l,hl⟩:∃ l,l=usesOf L (i:Int):=⟨_,rfl⟩
  have hUl:∀ x∈l,0≤x∧x<(L.length:Int):=fun x hx=>hU i x (by rw[←hl];exact hx)
  rw[←hl] at hln ⊢
  refine W.step (W.range (n:=l.length) (L:=l48_0) (Q:=fun q=>∃ ex,q=(.exit 2,[(0,uav L),(10,uav L),(11,.i .i64 (L.length:Int)),(12,.i .i64 (i:Int))]++ex,t)) rfl (fun j e z=>e=[(0,uav L),(10,uav L),(11,.i .i64 (L.length:Int)),(12,.i .i64 (i:Int)),(16,lst .one (ints l)),(17,.i .i64 (l.length:Int)),(18,.i .i64 (j:Int))]∧z=t) ?_ ?_ 0 _ _ (Nat.zero_le _) ⟨rfl,rfl⟩) ?_
  ·rintro j e z ⟨rfl,rfl⟩ hj
   have q1:=row_iad hj
   obtain⟨hx0,hxn⟩:=hUl _ (List.getElem_mem hj)
   generalize l[j]=x at q1 hx0 hxn
   have q3:decide ((j:Int)<(l.length:Int))=true:=by simp;omega
   have q5:=@wrap_one j (by omega)
   have q6:decide (x<0)=false:=by simp;omega
   have q7:decide (x≥(L.length:Int))=false:=by simp;omega
   simp only[go_sem,reduceCtorEq,↓reduceIte,nA,nB,nC,nD,nE,iA,iB,iC,iD,iE,iF,q1,q3,q5,q6,q7,uav_len,uav_low,lst_low]
  ·rintro e z ⟨rfl,rfl⟩
   have q3:decide ((l.length:Int)<(l.length:Int))=false:=by simp
   simp only[go_sem,reduceCtorEq,↓reduceIte,nA,nB,nC,nD,nE,iA,iB,iC,iD,iE,iF,q3,uav_low,lst_low]
   exact⟨_,rfl⟩
  ·rintro _ ⟨ex,rfl⟩
   simp only[go_sem,reduceCtorEq,↓reduceIte,nA,nB,nC,nD,nE,iA,iB,iC,iD,iE,iF,g5,uav_low,lst_low]
 ·rintro e t ⟨rfl,rfl⟩
  have q3:decide ((L.length:Int)<(L.length:Int))=false:=by simp
  simp only[go_sem,reduceCtorEq,↓reduceIte,nA,nB,nC,nD,nE,iA,iB,iC,iD,iE,iF,q3,uav_low]
  exact⟨_,rfl⟩
 ·rintro _ ⟨ex,rfl⟩
  simp only[go_sem,reduceCtorEq,↓reduceIte,nA,nB,nC,nD,nE,iA,iB,iC,iD,iE,iF]
end Go.Am
namespace Go.Am
open Go
open Tarjan (usesOf frOf)
theorem reps_tab {v:AV}:∀ n:Nat,reps [v] n=tab n fun _=>v
 | 0=>rfl
 | n+1=>by
  have h:∀ m:Nat,tab m (fun _=>v)=List.replicate m v:=fun m=>by unfold tab;simp[List.map_const']
  rw[reps,reps_tab n,h,h,List.replicate_succ];rfl
theorem tab_low {n m:Nat} {f:Int→AV} (h:∀ k,(f k).low m=true):AV.lowL m (tab n f)=true:=by
 have:∀ l:List Nat,AV.lowL m (l.map fun k:Nat=>f (k:Int))=true:=fun l=>by
  induction l with
  | nil=>rfl
  | cons k l ih=>rw[List.map_cons,lowL_cons,h,ih];rfl
 exact this _
theorem tab_flat {n:Nat} {f:Int→AV} (h:∀ k,(f k).cells=[f k]):(tab n f).flatMap AV.cells=tab n f:=by
 have:∀ l:List Nat,(l.map fun k:Nat=>f (k:Int)).flatMap AV.cells=l.map fun k:Nat=>f (k:Int):=fun l=>by
  induction l with
  | nil=>rfl
  | cons k l ih=>rw[List.map_cons,List.flatMap_cons,ih,h];rfl
 exact this _
theorem msl_tab {s:St} {v:AV} {n:Nat} (hn:n≤1000000) (hv:v.low 0=true):amsl s .one [v] (.i .i64 (n:Int)) (.i .i64 (n:Int))=some (.os s.nxt .one n,newAr s (tab n fun _=>v)):=by
 unfold amsl
 dsimp only
 rw[if_pos ⟨by omega,Int.le_refl _,by unfold most;omega⟩,Int.toNat_natCast,reps_tab,aslot_low (tab_low fun _=>hv)]
theorem find_w {L:List (List Int)} (hL:L.length≤2048) (hlen:∀ t,(usesOf L t).length≤1000000) (hU:∀ v,∀ x∈usesOf L v,0≤x∧x<(L.length:Int)) (s:St) :
  W (C F1 X1 49 [uav L] s) (· = (.tup [.sl .one (tab L.length fun k=>.i .i64 ((Tarjan.find (usesOf L) L.length L.length Tarjan.s0).gr k)),.i .i64 (Tarjan.find (usesOf L) L.length L.length Tarjan.s0).mn],s)):=by
 have hm:∀ (s:St) (v:AV),v.low 0=true→amsl s .one [v] (.i .i64 (L.length:Int)) (.i .i64 (L.length:Int))=some (.os s.nxt .one L.length,newAr s (tab L.length fun _=>v)):=fun s v hv=>msl_tab (by omega) hv
 have hm1:=fun s=>hm s (.i .i64 0) rfl
 have hm2:=fun s=>hm s (.b false) rfl
 rw[w_call (f:=49) rfl]
 simp only[go_sem,reduceCtorEq,↓reduceIte,nA,nB,nC,nD,nE,iA,iB,iC,iD,iE,iF,uav_len,uav_cells,uav_low,hm1,hm2]
 obtain⟨n,hn⟩:∃ n,n=L.length:=⟨_,rfl⟩
 rw[←hn]
 rw[←hn] at hU hL
 obtain⟨I,hI⟩:∃ I:Ids,I=⟨s.nxt,s.nxt+1,s.nxt+2,s.nxt+3⟩:=⟨_,rfl⟩
 obtain⟨A0,hA0⟩:∃ A0,A0=upd (upd (upd (upd s.arr s.nxt (some (tab n fun _=>.i .i64 0))) (s.nxt+1) (some (tab n fun _=>.i .i64 0))) (s.nxt+2) (some (tab n fun _=>.b false))) (s.nxt+3) (some (tab n fun _=>.i .i64 0)):=⟨_,rfl⟩
 obtain⟨u0,hu0⟩:∃ u0,u0=ex s [fob (uav L) n I Tarjan.s0 .nsl]:=⟨_,rfl⟩
 have hst:newAr (newAr (newAr (newAr (ex s [Ob.cells [uav L,.os s.nxt .one n,.os (newAr s (tab n fun x=>.i .i64 0)).nxt .one n,.nsl,.os (newAr (newAr s (tab n fun x=>.i .i64 0)) (tab n fun x=>.i .i64 0)).nxt .one n,.os (newAr (newAr (newAr s (tab n fun x=>.i .i64 0)) (tab n fun x=>.i .i64 0)) (tab n fun x=>.b false)).nxt .one n,.i .i64 0,.i .i64 0]]) (tab n fun x=>.i .i64 0)) (tab n fun x=>.i .i64 0)) (tab n fun x=>.b false)) (tab n fun x=>.i .i64 0)=wa u0 A0 (s.nxt+4):=by
  rw[hu0,hA0,hI];rfl
 rw[hst]
 have hr:cnt s<cnt u0:=by rw[hu0,ex_cnt];exact Nat.lt_succ_self _
 have ho:obj u0 (cnt s)=some (fob (uav L) n I Tarjan.s0 .nsl):=by rw[hu0,ex_obj0];rfl
 have F0:Fa A0 (s.nxt+4) n I Tarjan.s0 .nsl none:=by
  subst hA0 hI
  refine⟨?_,?_,?_,upd_same,Gr.nil,?_,(fun a h=>nomatch h),by simp⟩
  ·rw[upd_other (by simp),upd_other (by simp),upd_other (by simp),upd_same];rfl
  ·rw[upd_other (by simp),upd_other (by simp),upd_same];rfl
  ·rw[upd_other (by simp),upd_same]
   congr 2
  ·rintro a (rfl|rfl|rfl|rfl)<;>simp only<;>omega
 have hTb:=Tarjan.unv_le (usesOf L) 1000000 Tarjan.s0 n (fun k _=>hlen k)
 have hmul:n*(1000000+2)≤2048*(1000000+2):=Nat.mul_le_mul_right _ hL
 refine W.step (W.range (n:=n) (L:=l49_0) (Q:=fun q=>∃ A' N' v' d' ex,q=(.exit 0,[(5,.ref (cnt s) 0)]++ex,wa (setOb u0 (cnt s) (fob (uav L) n I (Tarjan.find (usesOf L) n n Tarjan.s0) v')) A' N')∧Fa A' N' n I (Tarjan.find (usesOf L) n n Tarjan.s0) v' d'∧s.nxt+4≤N'∧Off I none (s.nxt+4) A0 A') rfl (fun i e t=>∃ A' N' v' d',e=[(5,.ref (cnt s) 0),(21,.i .i64 (n:Int)),(22,.i .i64 (i:Int))]∧i≤n∧t=wa (setOb u0 (cnt s) (fob (uav L) n I (Tarjan.find (usesOf L) n i Tarjan.s0) v')) A' N'∧Fa A' N' n I (Tarjan.find (usesOf L) n i Tarjan.s0) v' d'∧s.nxt+4≤N'∧Off I none (s.nxt+4) A0 A'∧∀ a,d'=some a→s.nxt+4≤a) ?_ ?_ 0 _ _ (Nat.zero_le _) ⟨A0,s.nxt+4,.nsl,none,rfl,Nat.zero_le _,by show wa u0 A0 _=wa (setOb u0 (cnt s) (fob (uav L) n I Tarjan.s0 .nsl)) A0 _;rw[set_id ho],F0,Nat.le_refl _,fun _ _ _ _=>rfl,(fun a h=>nomatch h)⟩) ?_
 ·rintro i e t ⟨A',N',v',d',rfl,hin,rfl,FA,le,off,dd⟩ hi
  have g3:decide ((i:Int)<(n:Int))=true:=by simp;omega
  have g5:=@wrap_one i (by omega)
  have hii:=@ar_iad n
  have o1:∀ u,aload (wa u A' N') .one (.aref I.ao i)=some (.i .i64 ((Tarjan.find (usesOf L) n i Tarjan.s0).o i)):=fun u=>ar_ld FA.o hi
  have hsucc:=Tarjan.find_succ (usesOf L) n i Tarjan.s0
  unfold fob
  simp only[go_sem,reduceCtorEq,↓reduceIte,nA,nB,nC,nD,nE,iA,iB,iC,iD,iE,iF,g3,hr,hii hi,o1]
  refine W.ifc (fun d0=>?_) (fun d0=>?_)
  ·have h0:(Tarjan.find (usesOf L) n i Tarjan.s0).o i=0:=by simpa using d0
   rw[if_pos h0] at hsucc
   simp only[go_sem,reduceCtorEq,↓reduceIte,nA,nB,nC,nD,nE,iA,iB,iC,iD,iE,iF,d0,hr]
   have hbd:=Tarjan.find_bd hU i hin
   have ho1:obj (setOb u0 (cnt s) (fob (uav L) n I (Tarjan.find (usesOf L) n i Tarjan.s0) v')) (cnt s)=some (fob (uav L) n I (Tarjan.find (usesOf L) n i Tarjan.s0) v'):=obj_set hr
   refine W.step (look_w (T:=(Tarjan.unv (usesOf L) Tarjan.s0 n:Int)) ho1 FA hn.symm (by omega) (by omega) (fun t=>Nat.le_trans (hlen t) (by omega)) hU (Tarjan.find_ok hU i hin).1 hi h0 hbd.1 hbd.2) ?_
   rintro _ ⟨A2,N2,v2,d2,rfl,FA2,le2,off2,dd2⟩
   simp only[go_sem,reduceCtorEq,↓reduceIte,nA,nB,nC,nD,nE,iA,iB,iC,iD,iE,iF,hr,g5]
   rw[hsucc]
   exact⟨A2,N2,v2,d2,hi,rfl,FA2,by omega,fun a h1 h2 h3=>(off2 a (by omega) h2 fun e=>by have:=dd a e;omega).trans (off a h1 h2 h3),fun a ha=>by
    rcases dd2 a ha with h|h
    ·exact dd a h
    ·omega⟩
  ·have h0:¬ (Tarjan.find (usesOf L) n i Tarjan.s0).o i=0:=by simpa using d0
   rw[if_neg h0] at hsucc
   simp only[go_sem,reduceCtorEq,↓reduceIte,nA,nB,nC,nD,nE,iA,iB,iC,iD,iE,iF,d0,hr,g5]
   rw[hsucc]
   exact⟨A',N',v',d',hi,rfl,FA,le,off,dd⟩
 ·rintro e t ⟨A',N',v',d',rfl,hin,rfl,FA,le,off,dd⟩
  have g3:decide ((n:Int)<(n:Int))=false:=by simp
  simp only[go_sem,reduceCtorEq,↓reduceIte,nA,nB,nC,nD,nE,iA,iB,iC,iD,iE,iF,g3]
  exact⟨A',N',v',d',_,rfl,FA,le,off⟩
 ·rintro _ ⟨A',N',v',d',ex,rfl,FA,le,off⟩
  have hfz:∀ u,frz 19999 (.os I.ag .one n) (wa u A' N')=some (.sl .one (tab n fun k=>.i .i64 ((Tarjan.find (usesOf L) n n Tarjan.s0).gr k)),wa u (upd A' I.ag none) N'):=fun u=>by
   have hsc:∀ x∈tab n (fun k=>AV.i .i64 ((Tarjan.find (usesOf L) n n Tarjan.s0).gr k)),Ele .one x:=fun x hx=>by
    obtain⟨k,_,rfl⟩:=List.mem_map.1 hx;exact ele_one rfl
   have hfl:=tab_flat (n:=n) (f:=fun k=>AV.i .i64 ((Tarjan.find (usesOf L) n n Tarjan.s0).gr k)) fun _=>rfl
   have h1:=FzL.arr (A:=A') (a:=I.ag) (el:=.one) (xs:=tab n (fun k=>AV.i .i64 ((Tarjan.find (usesOf L) n n Tarjan.s0).gr k))) (by rw[hfl];exact FA.g) hsc
   rw[tab_len] at h1
   have h2:=h1.use 19997 u N'
   rw[h2,←clr_cons]
   congr 2
  unfold fob
  simp only[go_sem,reduceCtorEq,↓reduceIte,nA,nB,nC,nD,nE,iA,iB,iC,iD,iE,iF,hr,hfz]
  subst hu0
  simp only[go_sem,reduceCtorEq,↓reduceIte,nA,nB,nC,nD,nE,iA,iB,iC,iD,iE,iF]
  refine congrArg (Prod.mk _) (back_wa (fun a ha=>?_) rfl)
  have h3:¬ I.has a:=by
   rw[hI]
   rintro (rfl|rfl|rfl|rfl)<;>simp only at ha<;>omega
  rw[upd_other (fun e=>h3 (.inr (.inr (.inr e)))),off a (by omega) h3 (fun h=>nomatch h),hA0,upd_other (by omega),upd_other (by omega),upd_other (by omega),upd_other (by omega)]
end Go.Am
namespace Go.Am
open Go
open Tarjan (usesOf frOf)
theorem sl_iad {el el':El} {xs:List AV} {k:IntKind} {i:Nat} {x:AV} (he:el.size=el'.size) (h:xs[i]?=some x):aiad el' (.sl el xs) (.i k (i:Int))=some (.ep x.cells 0):=by
 show (if 0≤(i:Int)∧el.size=el'.size then (xs[(i:Int).toNat]?).map _ else none)=_
 rw[if_pos ⟨Int.natCast_nonneg i,he⟩,Int.toNat_natCast,h]
 rfl
theorem of_iad {n k:Nat} {gr:Int→Int} (h:k<n) (kd:IntKind):aiad .one (.sl .one (tab n fun x=>.i .i64 (gr x))) (.i kd (k:Int))=some (.ep [.i .i64 (gr k)] 0):=sl_iad (x:=.i .i64 (gr k)) rfl (tab_get h)
theorem needs_w {u:St} {A:Nat→Option (List AV)} {N n m ad:Nat} {L:List (List Int)} {gr:Int→Int} {l D:List Int} {vg:AV} (hn:L.length=n) (hlen:∀ t,(usesOf L t).length≤1000000) (hU:∀ v,∀ x∈usesOf L v,0≤x∧x<(n:Int)) (hd:A ad=some (tab m fun g=>.b (decide (g∈D)))) (hg:Rd A .one vg (ints l)) (hl:∀ k∈l,0≤k∧k<(n:Int)) (hll:l.length≤1000000) (hgr:∀ k:Int,0≤k→k<n→0≤gr k∧gr k<m) :
  W (C F1 X1 84 [uav L,.sl .one (tab n fun x=>.i .i64 (gr x)),vg,.os ad .one m] (wa u A N)) (· = (.b (Tarjan.needs (usesOf L) gr l D),wa u A N)):=by
 obtain⟨P,hP⟩:∃ P:Int→Bool,P=fun k=>(usesOf L k).all (fun to=>decide (gr to∈D)||gr to==gr k):=⟨_,rfl⟩
 have hne:Tarjan.needs (usesOf L) gr l D=l.all P:=by rw[hP];rfl
 have hgl:=hg.len
 have hgw:=hg.low
 rw[List.length_map] at hgl
 rw[hne]
 have hof:=@of_iad n
 have hda:=@ar_iad m
 rw[w_call (f:=84) rfl]
 simp only[go_sem,reduceCtorEq,↓reduceIte,nA,nB,nC,nD,nE,iA,iB,iC,iD,iE,iF,hgl,hgw]
 refine W.step (W.range (n:=l.length) (L:=l84_1) (Q:=fun q=>(∃ ex,q=(.exit 0,ex,wa u A N)∧l.all P=true)∨(q=(.ret,[(8,.b false)],wa u A N)∧l.all P=false)) rfl (fun i e t=>e=[(0,uav L),(1,.sl .one (tab n fun x=>.i .i64 (gr x))),(3,.os ad .one m),(13,vg),(14,.i .i64 (l.length:Int)),(15,.i .i64 (i:Int))]∧t=wa u A N∧(l.take i).all P=true) ?_ ?_ 0 _ _ (Nat.zero_le _) ⟨rfl,rfl,rfl⟩) ?_
 ·rintro i e t ⟨rfl,rfl,htk⟩ hi
  have hget:l[i]?=some l[i]:=List.getElem?_eq_getElem hi
  obtain⟨pt,t1,t2,-⟩:=hg.ld i (.i .i64 l[i]) (by rw[List.getElem?_map,hget];rfl)
  have t2':∀ u,aload (wa u A N) .one pt=some (.i .i64 l[i]):=fun u=>t2 _ rfl
  obtain⟨hk0,hkn⟩:=hl _ (List.getElem_mem hi)
  have htk2:(l.take (i+1)).all P=P l[i]:=by rw[List.take_succ_eq_append_getElem hi,List.all_append,htk];simp
  have hPf:P l[i]=false→l.all P=false:=fun h=>List.all_eq_false.2 ⟨_,List.getElem_mem hi,by rw[h];simp⟩
  generalize l[i]=k at t2' hk0 hkn htk2 hPf
  obtain⟨kn,rfl⟩:=Int.eq_ofNat_of_zero_le hk0
  have hkn':kn<n:=by omega
  have g3:decide ((i:Int)<(l.length:Int))=true:=by simp;omega
  have g5:=@wrap_one i (by omega)
  have hui:=@uses_iad L kn (by omega)
  simp only[go_sem,reduceCtorEq,↓reduceIte,nA,nB,nC,nD,nE,iA,iB,iC,iD,iE,iF,g3,t1,t2',hui,uav_low,lst_low,row_len,hgw]
  obtain⟨r,hr⟩:∃ r,r=usesOf L (kn:Int):=⟨_,rfl⟩
  have hrU:∀ x∈r,0≤x∧x<(n:Int):=fun x hx=>hU kn x (by rw[←hr];exact hx)
  have hrl:r.length≤1000000:=by rw[hr];exact hlen _
  have hPr:P (kn:Int)=r.all (fun to=>decide (gr to∈D)||gr to==gr kn):=by rw[hP,hr]
  rw[←hr]
  refine W.step (W.range (n:=r.length) (L:=l84_0) (Q:=fun q=>(∃ ex,q=(.exit 2,[(0,uav L),(1,.sl .one (tab n fun x=>.i .i64 (gr x))),(3,.os ad .one m),(10,.i .i64 (kn:Int)),(13,vg),(14,.i .i64 (l.length:Int)),(15,.i .i64 (i:Int))]++ex,wa u A N)∧P kn=true)∨(q=(.ret,[(8,.b false)],wa u A N)∧P kn=false)) rfl (fun j e z=>e=[(0,uav L),(1,.sl .one (tab n fun x=>.i .i64 (gr x))),(3,.os ad .one m),(10,.i .i64 (kn:Int)),(13,vg),(14,.i .i64 (l.length:Int)),(15,.i .i64 (i:Int)),(22,lst .one (ints r)),(23,.i .i64 (r.length:Int)),(24,.i .i64 (j:Int))]∧z=wa u A N∧(r.take j).all (fun to=>decide (gr to∈D)||gr to==gr kn)=true) ?_ ?_ 0 _ _ (Nat.zero_le _) ⟨rfl,rfl,rfl⟩) ?_
  ·rintro j e z ⟨rfl,rfl,hjt⟩ hj
   have q1:=row_iad hj
   obtain⟨hx0,hxn⟩:=hrU _ (List.getElem_mem hj)
   have hjt2:(r.take (j+1)).all (fun to=>decide (gr to∈D)||gr to==gr kn)=(decide (gr r[j]∈D)||gr r[j]==gr kn):=by rw[List.take_succ_eq_append_getElem hj,List.all_append,hjt];simp
   have hrf:(decide (gr r[j]∈D)||gr r[j]==gr kn)=false→P kn=false:=fun h=>by rw[hPr];exact List.all_eq_false.2 ⟨_,List.getElem_mem hj,by rw[h];simp⟩
   generalize r[j]=x at q1 hx0 hxn hjt2 hrf
   obtain⟨xn,rfl⟩:=Int.eq_ofNat_of_zero_le hx0
   have hxn':xn<n:=by omega
   have q3:decide ((j:Int)<(r.length:Int))=true:=by simp;omega
   have q5:=@wrap_one j (by omega)
   obtain⟨hg0,hgm⟩:=hgr xn hx0 hxn
   obtain⟨gn,hgn⟩:=Int.eq_ofNat_of_zero_le hg0
   have hgn':gn<m:=by omega
   have o1:=fun kd=>hof (k:=xn) (gr:=gr) hxn' kd
   have o2:=fun kd=>hof (k:=kn) (gr:=gr) hkn' kd
   rw[hgn] at o1
   have dl:∀ u,aload (wa u A N) .one (.aref ad gn)=some (.b (decide ((gn:Int)∈D))):=fun u=>ar_ld hd hgn'
   rw[hgn] at hjt2 hrf
   simp only[go_sem,reduceCtorEq,↓reduceIte,nA,nB,nC,nD,nE,iA,iB,iC,iD,iE,iF,q1,q3,o1,hda hgn',dl,uav_low,lst_low,hgw]
   refine W.ifc (fun d1=>?_) (fun d1=>?_)
   ·have h1:(gn:Int)∈D:=by simpa using d1
    simp only[go_sem,reduceCtorEq,↓reduceIte,nA,nB,nC,nD,nE,iA,iB,iC,iD,iE,iF,d1,q5,uav_low,lst_low,hgw]
    rw[hjt2];simp[h1]
   ·have h1:(gn:Int)∉D:=by simpa using d1
    simp only[go_sem,reduceCtorEq,↓reduceIte,nA,nB,nC,nD,nE,iA,iB,iC,iD,iE,iF,d1,o1,o2,uav_low,lst_low,hgw]
    refine W.ifc (fun d2=>?_) (fun d2=>?_)
    ·have h2:(gn:Int)≠gr kn:=by simpa using d2
     simp only[go_sem,reduceCtorEq,↓reduceIte,nA,nB,nC,nD,nE,iA,iB,iC,iD,iE,iF,d2,uav_low,lst_low,hgw]
     exact .inr (hrf (by simp[h1,h2]))
    ·have h2:(gn:Int)=gr kn:=by simpa using d2
     simp only[go_sem,reduceCtorEq,↓reduceIte,nA,nB,nC,nD,nE,iA,iB,iC,iD,iE,iF,d2,q5,uav_low,lst_low,hgw]
     rw[hjt2];simp[h2]
  ·rintro e z ⟨rfl,rfl,hjt⟩
   have q3:decide ((r.length:Int)<(r.length:Int))=false:=by simp
   simp only[go_sem,reduceCtorEq,↓reduceIte,nA,nB,nC,nD,nE,iA,iB,iC,iD,iE,iF,q3,uav_low,lst_low,hgw]
   rw[List.take_length] at hjt
   exact .inl ⟨_,rfl,by rw[hPr];exact hjt⟩
  ·rintro _ (⟨ex,rfl,hq⟩|⟨rfl,hq⟩)
   ·simp only[go_sem,reduceCtorEq,↓reduceIte,nA,nB,nC,nD,nE,iA,iB,iC,iD,iE,iF,g5,uav_low,lst_low,hgw]
    rw[htk2];exact hq
   ·simp only[go_sem,reduceCtorEq,↓reduceIte,nA,nB,nC,nD,nE,iA,iB,iC,iD,iE,iF]
    exact .inr (hPf hq)
 ·rintro e t ⟨rfl,rfl,htk⟩
  have q3:decide ((l.length:Int)<(l.length:Int))=false:=by simp
  simp only[go_sem,reduceCtorEq,↓reduceIte,nA,nB,nC,nD,nE,iA,iB,iC,iD,iE,iF,q3,uav_low,lst_low,hgw]
  rw[List.take_length] at htk
  first|exact .inl ⟨_,rfl,htk⟩|exact .inl ⟨_,htk⟩
 ·rintro _ (⟨ex,rfl,hq⟩|⟨rfl,hq⟩)
  ·simp only[go_sem,reduceCtorEq,↓reduceIte,nA,nB,nC,nD,nE,iA,iB,iC,iD,iE,iF,hq]
  ·simp only[go_sem,reduceCtorEq,↓reduceIte,nA,nB,nC,nD,nE,iA,iB,iC,iD,iE,iF,hq]
end Go.Am
namespace Go.Am
open Go
open Tarjan (usesOf frOf)
theorem nums_none {P:Int→Bool}:∀ n:Nat,(∀ j:Nat,j<n→P j=false)→(Tarjan.nums n).find? P=none
 | 0,_=>rfl
 | n+1,h=>by
  rw[Tarjan.nums,List.find?_append,nums_none n fun j hj=>h j (by omega)]
  simp[h n (by omega)]
theorem nums_some {P:Int→Bool} {i:Nat} (hi:P i=true):∀ n:Nat,i<n→(∀ j:Nat,j<i→P j=false)→(Tarjan.nums n).find? P=some (i:Int)
 | 0,h,_=>by omega
 | n+1,h,hj=>by
  rw[Tarjan.nums,List.find?_append]
  by_cases hn:i<n
  ·rw[nums_some hi n hn hj];rfl
  ·have:i=n:=by omega
   subst this
   rw[nums_none i hj]
   simp[hi]
theorem ready_w {u:St} {A:Nat→Option (List AV)} {N n m ad am:Nat} {L:List (List Int)} {gr:Int→Int} {D:List Int} {mv:Int→AV} (hn:L.length=n) (hn2:n≤100000) (hlen:∀ t,(usesOf L t).length≤1000000) (hU:∀ v,∀ x∈usesOf L v,0≤x∧x<(n:Int)) (hd:A ad=some (tab m fun g=>.b (decide (g∈D)))) (hm:A am=some (tab m mv)) (hg:∀ g:Nat,g<m→Rd A .one (mv g) (ints (Tarjan.members gr n g))) (hgr:∀ k:Int,0≤k→k<n→0≤gr k∧gr k<m) :
  W (C F1 X1 50 [uav L,.sl .one (tab n fun x=>.i .i64 (gr x)),.os am .one m,.os ad .one m] (wa u A N)) (· = (.i .i64 (Tarjan.ready (usesOf L) gr n D),wa u A N)):=by
 have hof:=@of_iad n
 have hda:=@ar_iad m
 rw[w_call (f:=50) rfl]
 simp only[go_sem,reduceCtorEq,↓reduceIte,nA,nB,nC,nD,nE,iA,iB,iC,iD,iE,iF,uav_len,hn]
 refine W.step (W.range (n:=n) (L:=l50_0) (Q:=fun q=>(∃ ex,q=(.exit 0,ex,wa u A N)∧Tarjan.ready (usesOf L) gr n D=0)∨q=(.ret,[(8,.i .i64 (Tarjan.ready (usesOf L) gr n D))],wa u A N)) rfl (fun i e t=>e=[(0,uav L),(1,.sl .one (tab n fun x=>.i .i64 (gr x))),(2,.os am .one m),(3,.os ad .one m),(12,.i .i64 (n:Int)),(13,.i .i64 (i:Int))]∧t=wa u A N∧∀ j:Nat,j<i→Tarjan.isReady (usesOf L) gr n D j=false) ?_ ?_ 0 _ _ (Nat.zero_le _) ⟨rfl,rfl,fun j h=>by omega⟩) ?_
 ·rintro i e t ⟨rfl,rfl,hno⟩ hi
  have g3:decide ((i:Int)<(n:Int))=true:=by simp;omega
  have g5:=@wrap_one i (by omega)
  obtain⟨hg0,hgm⟩:=hgr i (by omega) (by omega)
  obtain⟨gn,hgn⟩:=Int.eq_ofNat_of_zero_le hg0
  have hgn':gn<m:=by omega
  have o1:=fun kd=>hof (k:=i) (gr:=gr) hi kd
  rw[hgn] at o1
  have dl:∀ u,aload (wa u A N) .one (.aref ad gn)=some (.b (decide ((gn:Int)∈D))):=fun u=>ar_ld hd hgn'
  have ml:∀ u,aload (wa u A N) .one (.aref am gn)=some (mv gn):=fun u=>ar_ld hm hgn'
  have hrd:=hg gn hgn'
  have hmem:(i:Int)∈Tarjan.members gr n gn:=(Tarjan.mem_members gr n gn i).2 ⟨⟨by omega,by omega⟩,hgn⟩
  have hir:Tarjan.isReady (usesOf L) gr n D i=(!decide ((gn:Int)∈D)&&((Tarjan.members gr n gn).head?==some (i:Int))&&Tarjan.needs (usesOf L) gr (Tarjan.members gr n gn) D):=by unfold Tarjan.isReady;rw[hgn]
  have hnext:Tarjan.isReady (usesOf L) gr n D i=false→∀ j:Nat,j<i+1→Tarjan.isReady (usesOf L) gr n D j=false:=fun h j hj=>by
   by_cases e:j=i
   ·subst e;exact h
   ·exact hno j (by omega)
  obtain⟨h0,hs,hcons⟩:∃ h0 hs,Tarjan.members gr n gn=h0::hs:=by
   cases hx:Tarjan.members gr n gn with
   | nil=>rw[hx] at hmem;cases hmem
   | cons a b=>exact⟨a,b,rfl⟩
  obtain⟨pt,t1,t2,-⟩:=hrd.ld 0 (.i .i64 h0) (by rw[hcons];rfl)
  have t1':∀ k,aiad .one (mv gn) (.i k 0)=some pt:=t1
  have t2':∀ u,aload (wa u A N) .one pt=some (.i .i64 h0):=fun u=>t2 _ rfl
  have hml:=hrd.low
  have hnw:=needs_w (u:=u) (N:=N) (ad:=ad) (D:=D) hn hlen hU hd hrd (fun k hk=>((Tarjan.mem_members gr n gn k).1 hk).1) (by
   have:(Tarjan.members gr n gn).length≤n:=by
    unfold Tarjan.members
    exact Nat.le_trans (List.length_filter_le _ _) (by rw[Tarjan.nums_len];exact Nat.le_refl _)
   omega) hgr
  have hneq:=hnw.eq
  have hdm:=@hda
  simp only[go_sem,reduceCtorEq,↓reduceIte,nA,nB,nC,nD,nE,iA,iB,iC,iD,iE,iF,g3,o1,hda hgn',dl,ml,uav_low]
  refine W.ifc (fun d1=>?_) (fun d1=>?_)
  ·have h1:(gn:Int)∈D:=by simpa using d1
   simp only[go_sem,reduceCtorEq,↓reduceIte,nA,nB,nC,nD,nE,iA,iB,iC,iD,iE,iF,d1,g5,uav_low]
   exact hnext (by rw[hir];simp[h1])
  ·have h1:(gn:Int)∉D:=by simpa using d1
   simp only[go_sem,reduceCtorEq,↓reduceIte,nA,nB,nC,nD,nE,iA,iB,iC,iD,iE,iF,d1,hda hgn',ml,t1',t2',uav_low,hneq]
   refine W.ifc (fun d2=>?_) (fun d2=>?_)
   ·have h2:h0=(i:Int):=by simpa using d2
    simp only[go_sem,reduceCtorEq,↓reduceIte,nA,nB,nC,nD,nE,iA,iB,iC,iD,iE,iF,d2,hda hgn',ml,uav_low,hneq]
    refine W.ifc (fun d3=>?_) (fun d3=>?_)
    ·simp only[go_sem,reduceCtorEq,↓reduceIte,nA,nB,nC,nD,nE,iA,iB,iC,iD,iE,iF,d3,uav_low]
     have hr:Tarjan.ready (usesOf L) gr n D=gn:=by
      unfold Tarjan.ready
      rw[nums_some (i:=i) (by rw[hir,hcons];rw[hcons] at d3;rw[←h2];simp[h1,d3]) n hi hno]
      exact hgn
     rw[hr]
     exact .inr rfl
    ·simp only[go_sem,reduceCtorEq,↓reduceIte,nA,nB,nC,nD,nE,iA,iB,iC,iD,iE,iF,d3,g5,uav_low]
     exact hnext (by rw[hir];simp[d3])
   ·have h2:h0≠(i:Int):=by simpa using d2
    simp only[go_sem,reduceCtorEq,↓reduceIte,nA,nB,nC,nD,nE,iA,iB,iC,iD,iE,iF,d2,g5,uav_low]
    exact hnext (by rw[hir,hcons];simp[h2])
 ·rintro e t ⟨rfl,rfl,hno⟩
  have q3:decide ((n:Int)<(n:Int))=false:=by simp
  simp only[go_sem,reduceCtorEq,↓reduceIte,nA,nB,nC,nD,nE,iA,iB,iC,iD,iE,iF,q3,uav_low]
  exact .inl ⟨_,rfl,by unfold Tarjan.ready;rw[nums_none n hno]⟩
 ·rintro _ (⟨ex,rfl,hq⟩|rfl)
  ·simp only[go_sem,reduceCtorEq,↓reduceIte,nA,nB,nC,nD,nE,iA,iB,iC,iD,iE,iF,hq]
  ·simp only[go_sem,reduceCtorEq,↓reduceIte,nA,nB,nC,nD,nE,iA,iB,iC,iD,iE,iF]
end Go.Am
namespace Go.Am
open Go
open Tarjan (usesOf frOf)
theorem members_next (gr:Int→Int) (i:Nat) (g:Int):Tarjan.members gr (i+1) g=Tarjan.members gr i g++if gr i=g then [(i:Int)] else []:=by
 unfold Tarjan.members
 rw[Tarjan.nums,List.filter_append]
 congr 1
 by_cases h:gr i=g
 ·rw[if_pos h,List.filter_cons_of_pos (by simpa using h)];rfl
 ·rw[if_neg h,List.filter_cons_of_neg (by simpa using h)];rfl
theorem members_len (gr:Int→Int) (i:Nat) (g:Int):(Tarjan.members gr i g).length≤i:=by
 unfold Tarjan.members
 exact Nat.le_trans (List.length_filter_le _ _) (by rw[Tarjan.nums_len];exact Nat.le_refl _)
theorem groups_le {gr:Int→Int} {n m:Nat} (h1:∀ k:Int,0≤k→k<n→0≤gr k∧gr k<m) (h2:∀ g:Int,0≤g→g<m→∃ v:Int,0≤v∧v<n∧gr v=g):m≤n:=by
 have ht:=Tarjan.total_all gr (Tarjan.nums m) (Tarjan.nums_nodup m) n (fun k a b=>(Tarjan.mem_nums m _).2 (h1 k a b))
 have key:∀ l:List Int,(∀ g∈l,0≤g∧g<(m:Int))→l.length≤Tarjan.total gr n l:=by
  intro l
  induction l with
  | nil=>intro _;exact Nat.zero_le _
  | cons g l ih =>
   intro hl
   have h3:=ih fun x hx=>hl x (List.mem_cons_of_mem _ hx)
   obtain⟨a,b⟩:=hl g (by simp)
   obtain⟨v,c,d,e⟩:=h2 g a b
   have h4:0<(Tarjan.members gr n g).length:=List.length_pos_of_mem ((Tarjan.mem_members gr n g v).2 ⟨⟨c,d⟩,e⟩)
   unfold Tarjan.total at h3 ⊢
   simp only[List.length_cons,List.map_cons,List.sum_cons]
   omega
 have:=key (Tarjan.nums m) fun g hg=>(Tarjan.mem_nums m g).1 hg
 rw[Tarjan.nums_len,ht] at this
 exact this
structure Mem (n0 m i:Nat) (gr:Int→Int) (A0 A:Nat→Option (List AV)) (N:Nat) (mv:Int→AV) (dv:Int→Option Nat):Prop where
 row:A n0=some (tab m mv)
 rows:∀ g:Nat,g<m→Gr A N .one (mv g) (ints (Tarjan.members gr i g)) (dv g)
 inj:∀ (g g':Nat) a,g<m→g'<m→dv g=some a→dv g'=some a→g=g'
 hi:∀ (g:Nat) a,g<m→dv g=some a→n0<a
 nil:∀ g:Nat,g<m→Tarjan.members gr i g=[]→mv g=.nsl
 old:Old n0 A A0
 lt:n0<N
theorem Mem.next {n0 m i:Nat} {gr:Int→Int} {A0 A:Nat→Option (List AV)} {N:Nat} {mv:Int→AV} {dv:Int→Option Nat} (h:Mem n0 m i gr A0 A N mv dv) {gn:Nat} (hg:gn<m) (hgi:gr i=gn) (hi:i≤100000) :
  ∃ v' A1 A2 N',(∀ u,agrow (newAr (wa u A N) [.i .i64 (i:Int)]) .one 1 [.i .i64 (i:Int)] (mv gn)=some (v',wa u A1 N'))∧(∀ bs u,astore bs 1 (wa u A1 N') v' (.aref n0 gn)=some (.un,wa u A2 N'))∧v'.cells=[v']∧(∀ n,v'.low n=true)∧∃ mv' dv',Mem n0 m (i+1) gr A0 A2 N' mv' dv':=by
 have hG:=h.rows gn hg
 have hml:=members_len gr i gn
 obtain⟨v',A1,N1,d1,p1,p2,p3,p4,p5,p6⟩:=hG.push' (y:=.i .i64 (i:Int)) [.i .i64 (i:Int)] rfl (ele_one rfl) (by simp;unfold most;omega)
 have hlt:=h.lt
 have r1:A1 n0=some (tab m mv):=(p4 n0 hlt fun e=>by have:=h.hi gn n0 hg e;omega).trans h.row
 refine⟨v',A1,_,N1,p1,fun bs u=>ar_st r1 hg p2.one (p2.low 0),p2.one,p2.low,fun x=>if x=gn then v' else mv x,fun x=>if x=gn then d1 else dv x,?_⟩
 have hA:∀ a,a≠n0→upd A1 n0 (some ((tab m mv).set gn v')) a=A1 a:=fun a ha=>upd_other ha
 refine⟨by rw[upd_same,tab_set],fun g hgm=>?_,fun g g' a g1 g2 e1 e2=>?_,fun g a g1 e1=>?_,fun g hgm he=>?_,fun a ha=>?_,by omega⟩
 ·by_cases e:g=gn
  ·subst e
   simp only[if_true]
   rw[members_next,if_pos hgi]
   unfold ints
   rw[List.map_append]
   exact p2.mono fun a ha=>⟨hA a (by have:=p5 a ha;omega),p2.lt ha⟩
  ·have e':(g:Int)≠(gn:Int):=by omega
   simp only[if_neg e']
   rw[members_next,if_neg (by omega),List.append_nil]
   exact (h.rows g hgm).mono fun a ha=>⟨(hA a (by have:=h.hi g a hgm ha;omega)).trans (p4 a ((h.rows g hgm).lt ha) fun e2=>e (h.inj g gn a hgm hg ha e2)),by have:=(h.rows g hgm).lt ha;omega⟩
 ·by_cases c1:g=gn<;>by_cases c2:g'=gn
  ·omega
  ·have e':(g':Int)≠(gn:Int):=by omega
   subst c1
   simp only[if_true] at e1
   simp only[if_neg e'] at e2
   have:=p5 a e1
   have:=(h.rows g' g2).lt e2
   omega
  ·have e':(g:Int)≠(gn:Int):=by omega
   subst c2
   simp only[if_true] at e2
   simp only[if_neg e'] at e1
   have:=p5 a e2
   have:=(h.rows g g1).lt e1
   omega
  ·have e':(g:Int)≠(gn:Int):=by omega
   have e'':(g':Int)≠(gn:Int):=by omega
   simp only[if_neg e'] at e1
   simp only[if_neg e''] at e2
   exact h.inj g g' a g1 g2 e1 e2
 ·by_cases c1:g=gn
  ·subst c1
   simp only[if_true] at e1
   have:=p5 a e1
   omega
  ·have e':(g:Int)≠(gn:Int):=by omega
   simp only[if_neg e'] at e1
   exact h.hi g a g1 e1
 ·by_cases c1:g=gn
  ·subst c1
   rw[members_next,if_pos hgi] at he
   simp at he
  ·have e':(g:Int)≠(gn:Int):=by omega
   simp only[if_neg e']
   rw[members_next,if_neg (by omega),List.append_nil] at he
   exact h.nil g hgm he
 ·rw[hA a (by omega),p4 a (by omega) fun e=>by have:=h.hi gn a hg e;omega]
  exact h.old a ha
theorem Gs.grow {b0:Nat} {A:Nat→Option (List AV)} {N:Nat} {el:El} {v:AV} {n:Nat} {cs cy:List AV} (h:Gs b0 A N el v n cs) (hb:b0≤N) (hl:cy.length=el.size) (hlow:AV.lowL 0 cy=true) (hm:n+1≤most) :
  ∃ a A' N',(∀ u,agrow (newAr (wa u A N) cy) el 1 cy v=some (.os a el (n+1),wa u A' N'))∧Gs b0 A' N' el (.os a el (n+1)) (n+1) (cs++cy)∧N≤N'∧∀ i,i<b0→A' i=A i:=by
 have h':Gs b0 (newAr (wa ⟨[],A,N⟩ A N) cy).arr (newAr (wa ⟨[],A,N⟩ A N) cy).nxt el v n cs:=by
  rcases h with h|⟨a,h1,h2,h3,h4,h5⟩
  ·exact .inl h
  ·exact .inr ⟨a,h1,Nat.lt_succ_of_lt h2,h3,by show upd A N (some cy) a=_;rw[upd_other (by omega)];exact h4,h5⟩
 obtain⟨a,A',N',k1,k2,k3,k4⟩:=h'.app (Nat.le_succ_of_le hb) (k:=1) (cy:=cy) (by omega) (by rw[hl,Nat.one_mul]) hlow hm
 exact⟨a,A',N',fun u=>agrow_wa (s:=newAr (wa ⟨[],A,N⟩ A N) cy) k1 u,k2,Nat.le_trans (Nat.le_succ _) k3,fun i hi=>(k4 i hi).trans (by show upd A N (some cy) i=_;rw[upd_other (by omega)])⟩
theorem rows_fz {A:Nat→Option (List AV)} {N m n:Nat} {gr:Int→Int} {mv:Int→AV} {dv:Int→Option Nat} (hg:∀ g:Nat,g<m→Gr A N .one (mv g) (ints (Tarjan.members gr n g)) (dv g)) (hi:∀ (g g':Nat) a,g<m→g'<m→dv g=some a→dv g'=some a→g=g') (hn:∀ g:Nat,g<m→Tarjan.members gr n g=[]→mv g=.nsl) :
  ∀ l:List Int,l.Nodup→(∀ g∈l,0≤g∧g<(m:Int))→FzL 2 A (l.map mv) (l.map fun g=>lst .one (ints (Tarjan.members gr n g))) (l.flatMap fun g=>(dv g).toList)
 | [],_,_=>FzL.nil.ups 0
 | g::l,h1,h2=>by
  obtain⟨h3,h4⟩:=List.nodup_cons.1 h1
  obtain⟨g0,gm⟩:=h2 g (by simp)
  obtain⟨gn,rfl⟩:=Int.eq_ofNat_of_zero_le g0
  have hgn:gn<m:=by omega
  have k1:=(hg gn hgn).fz fun e=>hn gn hgn (List.map_eq_nil_iff.1 e)
  have k2:=rows_fz hg hi hn l h4 fun x hx=>h2 x (List.mem_cons_of_mem _ hx)
  rw[List.map_cons,List.map_cons,List.flatMap_cons]
  refine k1.app k2 fun a ha hb=>?_
  obtain⟨g',hg',hb'⟩:=List.mem_flatMap.1 ha
  obtain⟨q0,qm⟩:=h2 g' (List.mem_cons_of_mem _ hg')
  obtain⟨gn',rfl⟩:=Int.eq_ofNat_of_zero_le q0
  have:=hi gn gn' a hgn (by omega) (toList_lt hb) (toList_lt hb')
  subst this
  exact h3 hg'
end Go.Am
namespace Go.Am
open Go
open Tarjan (usesOf frOf)
theorem Groups_w {L:List (List Int)} (hL:L.length≤2048) (hlen:∀ t,(usesOf L t).length≤1000000) (hU:∀ v,∀ x∈usesOf L v,0≤x∧x<(L.length:Int)) (s:St) :
  ∃ (gr:Int→Int) (m:Nat),(∀ v:Int,0≤v→v<L.length→0≤gr v∧gr v<m∧∀ to∈usesOf L v,gr to≤gr v)∧(∀ g:Int,0≤g→g<m→∃ v:Int,0≤v∧v<L.length∧gr v=g) ∧
   W (C F1 X1 25 [uav L] s) (· = (.tup [uav ((Tarjan.order (usesOf L) gr L.length m).map (Tarjan.members gr L.length)),.i .i64 0],s)):=by
 obtain⟨S,hS⟩:∃ S,S=Tarjan.find (usesOf L) L.length L.length Tarjan.s0:=⟨_,rfl⟩
 obtain⟨R,hall⟩:=Tarjan.find_ok hU L.length (Nat.le_refl _)
 rw[←hS] at R hall
 have hfw:=find_w hL hlen hU s
 rw[←hS] at hfw
 obtain⟨m,hm⟩:=Int.eq_ofNat_of_zero_le R.mn0
 obtain⟨gr,hgrd⟩:∃ gr,gr=S.gr:=⟨_,rfl⟩
 rw[hm,←hgrd] at hfw
 have H1:∀ v:Int,0≤v→v<L.length→0≤gr v∧gr v<m∧∀ to∈usesOf L v,gr to≤gr v:=fun v a b=>by
  obtain⟨c1,c2,c3⟩:=R.cl v (hall v a b)
  rw[hgrd]
  exact⟨c1,by rw[hm] at c2;exact c2,fun to ht=>(c3 to ht).2⟩
 have H2:∀ g:Int,0≤g→g<m→∃ v:Int,0≤v∧v<L.length∧gr v=g:=fun g a b=>by
  obtain⟨v,c1,c2⟩:=R.ne g a (by rw[hm];exact b)
  obtain⟨c3,c4⟩:=R.rng v c1
  exact⟨v,c3,c4,by rw[hgrd];exact c2⟩
 refine⟨gr,m,H1,H2,?_⟩
 obtain⟨n,hn⟩:∃ n,n=L.length:=⟨_,rfl⟩
 have hrw:=right_w hL (fun t=>Nat.le_trans (hlen t) (by omega)) hU s
 rw[←hn] at hfw H1 H2 hL hU ⊢
 have H3:∀ k:Int,0≤k→k<n→0≤gr k∧gr k<m:=fun k a b=>⟨(H1 k a b).1,(H1 k a b).2.1⟩
 have hmn:=groups_le H3 H2
 have hord:=Tarjan.order_ok hU H1 H2
 have hmsl:∀ (s:St) (v:AV),v.low 0=true→amsl s .one [v] (.i .i64 (m:Int)) (.i .i64 (m:Int))=some (.os s.nxt .one m,newAr s (tab m fun _=>v)):=fun s v hv=>msl_tab (by omega) hv
 have hm1:=fun s=>hmsl s .nsl rfl
 have hm2:=fun s=>hmsl s (.b false) rfl
 have hofl:alen false (.sl .one (tab n fun x=>.i .i64 (gr x)))=some (.i .i64 (n:Int)):=by show some (AV.i .i64 ((tab n _).length:Nat))=_;rw[tab_len]
 have hof:=@of_iad n
 have hda:=@ar_iad m
 rw[w_call (f:=25) rfl]
 simp only[go_sem,reduceCtorEq,↓reduceIte,nA,nB,nC,nD,nE,iA,iB,iC,iD,iE,iF,hrw.eq,hfw.eq,uav_low,hm1,hofl]
 have M0:Mem s.nxt m 0 gr s.arr (upd s.arr s.nxt (some (tab m fun _=>.nsl))) (s.nxt+1) (fun _=>.nsl) (fun _=>none) :=
  ⟨upd_same,fun g _=>Gr.nil,(fun g g' a _ _ h=>nomatch h),(fun g a _ h=>nomatch h),fun _ _ _=>rfl,fun a ha=>upd_other (by omega),by omega⟩
 refine W.step (W.range (n:=n) (L:=l25_0) (Q:=fun q=>∃ A N mv dv ex,q=(.exit 0,[(0,uav L),(5,.sl .one (tab n fun x=>.i .i64 (gr x))),(6,.i .i64 (m:Int)),(7,.os s.nxt .one m)]++ex,wa s A N)∧Mem s.nxt m n gr s.arr A N mv dv) rfl (fun i e t=>∃ A N mv dv,e=[(0,uav L),(5,.sl .one (tab n fun x=>.i .i64 (gr x))),(6,.i .i64 (m:Int)),(7,.os s.nxt .one m),(25,.sl .one (tab n fun x=>.i .i64 (gr x))),(26,.i .i64 (n:Int)),(27,.i .i64 (i:Int))]∧t=wa s A N∧Mem s.nxt m i gr s.arr A N mv dv) ?_ ?_ 0 _ _ (Nat.zero_le _) ⟨_,_,_,_,rfl,rfl,M0⟩) ?_
 ·rintro i e t ⟨A,N,mv,dv,rfl,rfl,hM⟩ hi
  have g3:decide ((i:Int)<(n:Int))=true:=by simp;omega
  have g5:=@wrap_one i (by omega)
  obtain⟨hg0,hgm⟩:=H3 i (by omega) (by omega)
  obtain⟨gn,hgn⟩:=Int.eq_ofNat_of_zero_le hg0
  have hgn':gn<m:=by omega
  have o1:=fun kd=>hof (k:=i) (gr:=gr) hi kd
  rw[hgn] at o1
  have ml:∀ u,aload (wa u A N) .one (.aref s.nxt gn)=some (mv gn):=fun u=>ar_ld hM.row hgn'
  obtain⟨v',A1,A2,N',p1,p2,p3,p4,mv',dv',p5⟩:=hM.next hgn' hgn (by omega)
  have mlow:=(hM.rows gn hgn').low
  simp only[go_sem,reduceCtorEq,↓reduceIte,nA,nB,nC,nD,nE,iA,iB,iC,iD,iE,iF,g3,g5,o1,hda hgn',ml,p1,p2,p3,p4,mlow,uav_low]
  exact⟨A2,N',mv',dv',rfl,p5⟩
 ·rintro e t ⟨A,N,mv,dv,rfl,rfl,hM⟩
  have g3:decide ((n:Int)<(n:Int))=false:=by simp
  simp only[go_sem,reduceCtorEq,↓reduceIte,nA,nB,nC,nD,nE,iA,iB,iC,iD,iE,iF,g3,uav_low]
  exact⟨A,N,mv,dv,_,rfl,hM⟩
 ·rintro _ ⟨A1,N1,mv,dv,ex,rfl,hM⟩
  simp only[go_sem,reduceCtorEq,↓reduceIte,nA,nB,nC,nD,nE,iA,iB,iC,iD,iE,iF,hm2,uav_low]
  rw[newAr_wa2]
  obtain⟨B0,hB0⟩:∃ B0,B0=upd A1 N1 (some (tab m fun _=>.b false)):=⟨_,rfl⟩
  rw[←hB0]
  have hlt:=hM.lt
  have hB:∀ a,a<N1→B0 a=A1 a:=fun a ha=>by rw[hB0,upd_other (by omega)]
  have D0:B0 N1=some (tab m fun g=>.b (decide (g∈Tarjan.order (usesOf L) gr n 0))):=by
   rw[hB0,upd_same]
   congr 2
  refine W.step (W.range (n:=m) (L:=l25_1) (Q:=fun q=>∃ A N vo ex,q=(.exit 2,[(0,uav L),(5,.sl .one (tab n fun x=>.i .i64 (gr x))),(7,.os s.nxt .one m),(10,.os N1 .one m),(11,vo)]++ex,wa s A N)∧(∀ a,a<N1→A a=B0 a)∧Gs (N1+1) A N .one vo m ((Tarjan.order (usesOf L) gr n m).map mv)∧(m=0→vo=.nsl)) rfl (fun j e t=>∃ A N vo,e=[(0,uav L),(5,.sl .one (tab n fun x=>.i .i64 (gr x))),(7,.os s.nxt .one m),(10,.os N1 .one m),(11,vo),(45,.i .i64 (m:Int)),(46,.i .i64 (j:Int))]∧t=wa s A N∧j≤m∧(∀ a,a<N1→A a=B0 a)∧N1+1≤N∧A N1=some (tab m fun g=>.b (decide (g∈Tarjan.order (usesOf L) gr n j)))∧Gs (N1+1) A N .one vo j ((Tarjan.order (usesOf L) gr n j).map mv)∧(j=0→vo=.nsl)) ?_ ?_ 0 _ _ (Nat.zero_le _) ⟨B0,N1+1,.nsl,rfl,rfl,Nat.zero_le _,fun _ _=>rfl,Nat.le_refl _,D0,.inl ⟨rfl,rfl,rfl⟩,fun _=>rfl⟩) ?_
  ·rintro j e t ⟨A,N,vo,rfl,rfl,hjm,hold,hNN,hdn,hvo,hnil⟩ hj
   have g3:decide ((j:Int)<(m:Int))=true:=by simp;omega
   have g5:=@wrap_one j (by omega)
   have hrow:A s.nxt=some (tab m mv):=by rw[hold _ hlt,hB _ hlt];exact hM.row
   have hrd:∀ g:Nat,g<m→Rd A .one (mv g) (ints (Tarjan.members gr n g)):=fun g hg=>((hM.rows g hg).mono fun a ha=>by
    have:=(hM.rows g hg).lt ha
    exact⟨by rw[hold a this,hB a this],this⟩).rd (by decide)
   have hrw2:=ready_w (u:=s) (A:=A) (N:=N) (n:=n) (m:=m) (ad:=N1) (am:=s.nxt) (gr:=gr) (D:=Tarjan.order (usesOf L) gr n j) (mv:=mv) hn.symm (by omega) hlen hU hdn hrow hrd H3
   obtain⟨hj1,hj2,hj3,-⟩:=hord (j+1) hj
   have hos:Tarjan.order (usesOf L) gr n (j+1)=Tarjan.order (usesOf L) gr n j++[Tarjan.ready (usesOf L) gr n (Tarjan.order (usesOf L) gr n j)]:=rfl
   rw[hos] at hj1 hj2 hj3
   obtain⟨hr0,hrm⟩:=hj3 (Tarjan.ready (usesOf L) gr n (Tarjan.order (usesOf L) gr n j)) (by simp)
   have hrq:=hrw2.eq
   rw[hos]
   generalize Tarjan.ready (usesOf L) gr n (Tarjan.order (usesOf L) gr n j)=r at hr0 hrm hrq hj1 hj2 hj3
   obtain⟨rn,rfl⟩:=Int.eq_ofNat_of_zero_le hr0
   have hrm':rn<m:=by omega
   obtain⟨A2,hA2⟩:∃ A2,A2=upd A N1 (some ((tab m fun g=>.b (decide (g∈Tarjan.order (usesOf L) gr n j))).set rn (.b true))):=⟨_,rfl⟩
   have st1:∀ bs u,astore bs 1 (wa u A N) (.b true) (.aref N1 rn)=some (.un,wa u A2 N):=fun bs u=>by rw[hA2];exact ar_st hdn hrm' rfl rfl
   have hA2o:∀ a,a≠N1→A2 a=A a:=fun a ha=>by rw[hA2,upd_other ha]
   have ml:∀ u,aload (wa u A2 N) .one (.aref s.nxt rn)=some (mv rn):=fun u=>ar_ld (by rw[hA2o _ (by omega)];exact hrow) hrm'
   have hmr:=hM.rows rn hrm'
   have mlow:=hmr.low
   have mone:=hmr.one
   have hvo2:Gs (N1+1) A2 N .one vo j ((Tarjan.order (usesOf L) gr n j).map mv):=by
    rcases hvo with h|⟨a,h1,h2,h3,h4,h5⟩
    ·exact .inl h
    ·exact .inr ⟨a,h1,h2,h3,by rw[hA2o a (by omega)];exact h4,h5⟩
   obtain⟨a,A3,N3,p1,p2,p3,p4⟩:=hvo2.grow (cy:=[mv rn]) hNN rfl (by simp[lowL_cons,lowL_nil,mlow]) (by unfold most;omega)
   have hvl:∀ k,vo.low k=true:=fun k=>by
    rcases hvo with ⟨h,-⟩|⟨a,-,-,h,-⟩<;>rw[h]<;>rfl
   simp only[go_sem,reduceCtorEq,↓reduceIte,nA,nB,nC,nD,nE,iA,iB,iC,iD,iE,iF,g3,g5,hrq,hda hrm',st1,ml,mlow,mone,p1,hvl,uav_low]
   refine⟨A3,N3,.os a .one (j+1),rfl,rfl,hj,fun b hb=>by rw[p4 b (by omega),hA2o b (by omega)];exact hold b hb,by omega,?_,by rw[List.map_append];exact p2⟩
   rw[p4 N1 (by omega),hA2,upd_same,tab_set]
   congr 2
   funext x
   by_cases hx:x=(rn:Int)<;>simp[hx]
  ·rintro e t ⟨A,N,vo,rfl,rfl,hjm,hold,hNN,hdn,hvo,hnil⟩
   have g3:decide ((m:Int)<(m:Int))=false:=by simp
   have hvl:∀ k,vo.low k=true:=fun k=>by
    rcases hvo with ⟨h,-⟩|⟨a,-,-,h,-⟩<;>rw[h]<;>rfl
   simp only[go_sem,reduceCtorEq,↓reduceIte,nA,nB,nC,nD,nE,iA,iB,iC,iD,iE,iF,g3,hvl,uav_low]
   exact⟨A,N,vo,_,rfl,hold,hvo,hnil⟩
  ·rintro _ ⟨A,N,vo,ex,rfl,hold,hvo,hnil⟩
   have hvl:∀ k,vo.low k=true:=fun k=>by
    rcases hvo with ⟨h,-⟩|⟨a,-,-,h,-⟩<;>rw[h]<;>rfl
   obtain⟨ho1,ho2,ho3,-⟩:=hord m (Nat.le_refl _)
   have hfz:∃ B,Old s.nxt B s.arr∧∀ u,frz 19999 vo (wa u A N)=some (uav ((Tarjan.order (usesOf L) gr n m).map (Tarjan.members gr n)),wa u B N):=by
    have hAo:Old s.nxt A s.arr:=fun a ha=>by rw[hold a (by omega),hB a (by omega)];exact hM.old a ha
    have hG:=rows_fz (A:=A) (N:=N1) (fun g hg=>(hM.rows g hg).mono fun a ha=>by
     have:=(hM.rows g hg).lt ha
     exact⟨by rw[hold a this,hB a this],this⟩) hM.inj hM.nil (Tarjan.order (usesOf L) gr n m) ho2 ho3
    rcases hvo with ⟨h1,h2,-⟩|⟨a,h1,h2,h3,h4,h5⟩
    ·subst h1 h2
     exact⟨A,hAo,fun u=>rfl⟩
    ·have hne:m≠0:=fun e=>by rw[hnil e] at h3;cases h3
     have hele:∀ x∈(Tarjan.order (usesOf L) gr n m).map (fun g=>lst .one (ints (Tarjan.members gr n g))),Ele .one x:=fun x hx=>by
      obtain⟨g,_,rfl⟩:=List.mem_map.1 hx
      exact ele_one (lst_scal (by unfold ints;induction Tarjan.members gr n g with|nil=>rfl|cons y l ih=>exact ih))
     have hch:=chunk_flat _ [] fun x hx=>(hele x hx).elem
     have hfl:((Tarjan.order (usesOf L) gr n m).map (fun g=>lst .one (ints (Tarjan.members gr n g)))).flatMap AV.cells=(Tarjan.order (usesOf L) gr n m).map (fun g=>lst .one (ints (Tarjan.members gr n g))):=by
      induction Tarjan.order (usesOf L) gr n m with
      | nil=>rfl
      | cons g l ih=>rw[List.map_cons,List.flatMap_cons,ih,lst_cells];rfl
     rw[List.append_nil,hfl,List.length_map,ho1] at hch
     have hD:∀ b∈(Tarjan.order (usesOf L) gr n m).flatMap (fun g=>(dv g).toList),s.nxt<b∧b<N1:=fun b hb=>by
      obtain⟨g,hg,hb'⟩:=List.mem_flatMap.1 hb
      obtain⟨q0,qm⟩:=ho3 g hg
      obtain⟨gn,rfl⟩:=Int.eq_ofNat_of_zero_le q0
      exact⟨hM.hi gn b (by omega) (toList_lt hb'),(hM.rows gn (by omega)).lt (toList_lt hb')⟩
     have hos:=FzL.os (a:=a) (el:=.one) (k:=m) (cs:=(Tarjan.order (usesOf L) gr n m).map mv) (by rw[List.take_of_length_le (by rw[List.length_map,ho1];exact Nat.le_of_eq (Nat.mul_one m).symm)];exact hG) h4 (fun hh=>by have:=(hD a hh).2;omega) hch
     refine⟨_,clr_old hAo (D:=a::(Tarjan.order (usesOf L) gr n m).flatMap (fun g=>(dv g).toList)) fun b hb=>?_,fun u=>?_⟩
     ·rcases List.mem_cons.1 hb with rfl|hb
      ·omega
      ·have:=(hD b hb).1;omega
     ·have h6:=hos.use 19996 u N
      rw[h3,h6]
      unfold uav
      rw[List.map_map]
      congr 2
      cases hx:Tarjan.order (usesOf L) gr n m with
      | nil=>rw[hx] at ho1;exact absurd ho1.symm hne
      | cons g l=>rfl
   obtain⟨B,hB1,hB2⟩:=hfz
   simp only[go_sem,reduceCtorEq,↓reduceIte,nA,nB,nC,nD,nE,iA,iB,iC,iD,iE,iF,hvl,hB2]
   exact congrArg (Prod.mk _) (back_wa hB1 (by unfold uav;simp only[alow_tup,alowL_cons,alowL_nil,lst_alow,alow_i,Bool.and_true]))
end Go.Am
namespace Go.Am
open Go
theorem X1_eq {f args s} (hf:isX f=true):C F1 X1 f args s=extern F0 X0 isX f args s:=C_ext (by unfold F1;rw[hf];rfl)
theorem flt_full {e l c:Int}:(flt e l c).full=true:=(rfl)
theorem X_Program (src:Str):∃ (P:Prog) (e l c:Int),(∀ s,C F1 X1 4 [.s src] s=some (.tup [P.av,flt e l c],s))∧P.sz≤400000∧P.binds.length≤2048:=by
 obtain⟨_,h1,P,e,l,c,rfl,h2,h3⟩:=Program_w src S0
 exact⟨P,e,l,c,fun s=>(X1_eq rfl).trans (extern_eq h1 rfl rfl (by simp[AV.full,AV.fullL,P.full,flt_full]) s),h2,h3⟩
theorem X_Check (P:Prog) (hP:P.sz≤400000):∃ e l c:Int,∀ s,C F1 X1 5 [P.av] s=some (flt e l c,s):=by
 obtain⟨e,l,c,h1⟩:=Check_tot P hP S0
 exact⟨e,l,c,fun s=>(X1_eq rfl).trans (extern_eq h1 rfl (by simp[AV.fullL,P.full]) flt_full s)⟩
noncomputable def usesB (b:Bnd):List Str:=if h:b.sz≤900000 then Classical.choose (Uses_tot b h S0) else []
theorem X_Uses (b:Bnd) (hb:b.sz≤900000):(usesB b).length≤b.sz∧∀ s,C F1 X1 9 [b.av] s=some (lst .one (strs (usesB b)),s):=by
 unfold usesB
 rw[dif_pos hb]
 obtain⟨h1,h2⟩:=Classical.choose_spec (Uses_tot b hb S0)
 exact⟨h1,fun s=>(X1_eq rfl).trans (extern_eq h2 rfl (by simp[AV.fullL,b.full]) (by rw[lst_full1];exact fullL_strs) s)⟩
end Go.Am
namespace Go.Am
open Go
theorem Index_w {v:AV} {xs:List Str} (t:Str) (s:St) (hr:Rd s.arr .one v (strs xs)) (hl:xs.length≤1000000):W (C F1 X1 24 [v,.s t] s) fun q=>∃ r:Int,q=(.i .i64 r,s)∧((r = -1∧t∉xs)∨∃ j:Nat,r=j∧xs[j]?=some t):=by
 have hlow:=hr.low
 have hlen:=hr.len
 rw[strs_len] at hlen
 rw[w_call (f:=24) rfl]
 simp only[go_sem,reduceCtorEq,↓reduceIte,nA,nB,nC,nD,nE,iA,iB,iC,iD,iE,iF,hlen]
 refine W.step (W.range (n:=xs.length) (L:=l24_0) (Q:=fun q=>(∃ ex,q=(.exit 0,ex,s)∧t∉xs)∨∃ j:Nat,q=(.ret,[(4,.i .i64 (j:Int))],s)∧xs[j]?=some t) rfl (fun i e z=>e=[(0,v),(1,.s t),(7,.i .i64 (xs.length:Int)),(8,.i .i64 (i:Int))]∧z=s∧t∉xs.take i) ?_ ?_ 0 _ _ (Nat.zero_le _) ⟨rfl,rfl,by simp⟩) ?_
 ·rintro i e z ⟨rfl,rfl,hno⟩ hi
  obtain⟨p,h1,h2,-⟩:=hr.ld i (.s xs[i]) (by simp[strs])
  have h2':=h2 z rfl
  have h3:decide ((i:Int)<(xs.length:Int))=true:=by simp;omega
  have h5:=@wrap_one i (by omega)
  simp only[go_sem,reduceCtorEq,↓reduceIte,nA,nB,nC,nD,nE,iA,iB,iC,iD,iE,iF,h1,h2',h3,h5,hlow]
  refine W.ifc (fun h=>?_) (fun h=>?_)
  ·have he:t=xs[i]:=by simpa using h
   simp only[go_sem,reduceCtorEq,↓reduceIte,nA,nB,nC,nD,nE,iA,iB,iC,iD,iE,iF,h,h5]
   exact .inr ⟨i,rfl,by rw[List.getElem?_eq_getElem hi,he]⟩
  ·have he:t≠xs[i]:=by simpa using h
   simp only[go_sem,reduceCtorEq,↓reduceIte,nA,nB,nC,nD,nE,iA,iB,iC,iD,iE,iF,h,h5,hlow]
   rw[List.take_succ_eq_append_getElem hi,List.mem_append,List.mem_singleton,not_or]
   exact⟨hno,he⟩
 ·rintro e z ⟨rfl,rfl,hno⟩
  have h3:decide ((xs.length:Int)<(xs.length:Int))=false:=by simp
  simp only[go_sem,reduceCtorEq,↓reduceIte,nA,nB,nC,nD,nE,iA,iB,iC,iD,iE,iF,h3,hlow]
  rw[List.take_length] at hno
  exact .inl ⟨_,rfl,hno⟩
 ·rintro q (⟨ex,rfl,hno⟩|⟨j,rfl,hj⟩)
  ·simp only[go_sem,reduceCtorEq,↓reduceIte,nA,nB,nC,nD,nE,iA,iB,iC,iD,iE,iF]
   exact⟨_,rfl,.inl ⟨rfl,hno⟩⟩
  ·simp only[go_sem,reduceCtorEq,↓reduceIte,nA,nB,nC,nD,nE,iA,iB,iC,iD,iE,iF]
   exact⟨_,rfl,.inr ⟨j,rfl,hj⟩⟩
theorem Has_w {v:AV} {xs:List Str} (t:Str) (s:St) (hr:Rd s.arr .one v (strs xs)) (hl:xs.length≤1000000):W (C F1 X1 10 [v,.s t] s) (· = (.b (decide (t∈xs)),s)):=by
 have hlow:=hr.low
 have hlen:=hr.len
 rw[strs_len] at hlen
 rw[w_call (f:=10) rfl]
 simp only[go_sem,reduceCtorEq,↓reduceIte,nA,nB,nC,nD,nE,iA,iB,iC,iD,iE,iF,hlen]
 refine W.step (W.range (n:=xs.length) (L:=l10_0) (Q:=fun q=>(∃ ex,q=(.exit 0,ex,s)∧t∉xs)∨(q=(.ret,[(4,.b true)],s)∧t∈xs)) rfl (fun i e z=>e=[(0,v),(1,.s t),(5,.i .i64 (i:Int))]∧z=s∧t∉xs.take i) ?_ ?_ 0 _ _ (Nat.zero_le _) ⟨rfl,rfl,by simp⟩) ?_
 ·rintro i e z ⟨rfl,rfl,hno⟩ hi
  obtain⟨p,h1,h2,-⟩:=hr.ld i (.s xs[i]) (by simp[strs])
  have h2':=h2 z rfl
  have h3:decide ((i:Int)<(xs.length:Int))=true:=by simp;omega
  have h5:=@wrap_one i (by omega)
  simp only[go_sem,reduceCtorEq,↓reduceIte,nA,nB,nC,nD,nE,iA,iB,iC,iD,iE,iF,h1,h2',h3,h5,hlow,hlen]
  refine W.ifc (fun h=>?_) (fun h=>?_)
  ·have he:xs[i]=t:=by simpa using h
   simp only[go_sem,reduceCtorEq,↓reduceIte,nA,nB,nC,nD,nE,iA,iB,iC,iD,iE,iF,h,h5]
   exact .inr (by rw[←he];exact List.getElem_mem hi)
  ·have he:xs[i]≠t:=by simpa using h
   simp only[go_sem,reduceCtorEq,↓reduceIte,nA,nB,nC,nD,nE,iA,iB,iC,iD,iE,iF,h,h5,hlow]
   rw[List.take_succ_eq_append_getElem hi,List.mem_append,List.mem_singleton,not_or]
   exact⟨hno,fun e=>he e.symm⟩
 ·rintro e z ⟨rfl,rfl,hno⟩
  have h3:decide ((xs.length:Int)<(xs.length:Int))=false:=by simp
  simp only[go_sem,reduceCtorEq,↓reduceIte,nA,nB,nC,nD,nE,iA,iB,iC,iD,iE,iF,h3,hlow,hlen]
  rw[List.take_length] at hno
  exact .inl ⟨_,rfl,hno⟩
 ·rintro q (⟨ex,rfl,hno⟩|⟨rfl,hj⟩)
  ·simp only[go_sem,reduceCtorEq,↓reduceIte,nA,nB,nC,nD,nE,iA,iB,iC,iD,iE,iF]
   simp[hno]
  ·simp only[go_sem,reduceCtorEq,↓reduceIte,nA,nB,nC,nD,nE,iA,iB,iC,iD,iE,iF]
   simp[hj]
theorem Names_w (bs:List Bnd) (hl:bs.length≤100000) (s:St):W (C F1 X1 8 [lst (.st 4) (bs.map Bnd.av)] s) (· = (lst .one (strs (bs.map Bnd.name)),s)):=by
 rw[w_call (f:=8) rfl]
 simp only[go_sem,reduceCtorEq,↓reduceIte,nA,nB,nC,nD,nE,iA,iB,iC,iD,iE,iF,List.length_map]
 refine W.step (W.range (n:=bs.length) (L:=l8_0) (Q:=fun q=>∃ v A N ex,q=(.exit 0,[(0,lst (.st 4) (bs.map Bnd.av)),(3,v)]++ex,wa s A N)∧Loc s.arr s.nxt A N .one v (strs (bs.map Bnd.name))) rfl (fun i e t=>∃ v A N,e=[(0,lst (.st 4) (bs.map Bnd.av)),(3,v),(4,.i .i64 (i:Int))]∧t=wa s A N∧Loc s.arr s.nxt A N .one v (strs ((bs.take i).map Bnd.name))) ?_ ?_ 0 _ _ (Nat.zero_le _) ⟨.nsl,s.arr,s.nxt,rfl,rfl,Loc.nil⟩) ?_
 ·rintro i e t ⟨v,A,N,rfl,rfl,hL⟩ hi
  have h0:=List.getElem?_eq_getElem hi
  have htk:(bs.take (i+1)).map Bnd.name=(bs.take i).map Bnd.name++[bs[i].name]:=by rw[List.take_succ_eq_append_getElem hi,List.map_append];rfl
  rw[htk]
  generalize bs[i]=b at h0
  have g1:∀ k,aiad (.st 4) (lst (.st 4) (bs.map Bnd.av)) (.i k (i:Int))=some (.ep b.av.cells 0):=fun k=>lst_iad rfl (by rw[List.getElem?_map,h0];rfl)
  rw[Bnd.cells_eq] at g1
  have g3:decide ((i:Int)<(bs.length:Int))=true:=by simp;omega
  have g5:=@wrap_one i (by omega)
  obtain⟨v',A',N',k1,k2⟩:=hL.push (y:=.s b.name) (cy:=[.s b.name]) rfl (ele_one rfl) (by rw[strs_len,List.length_map,List.length_take];unfold most;omega)
  simp only[go_sem,reduceCtorEq,↓reduceIte,nA,nB,nC,nD,nE,iA,iB,iC,iD,iE,iF,g1,g3,g5,k1,hL.low,k2.low,List.length_map]
  exact⟨_,_,_,rfl,rfl,strs_push▸k2⟩
 ·rintro e t ⟨v,A,N,rfl,rfl,hL⟩
  have g3:decide ((bs.length:Int)<(bs.length:Int))=false:=by simp
  simp only[go_sem,reduceCtorEq,↓reduceIte,nA,nB,nC,nD,nE,iA,iB,iC,iD,iE,iF,g3,hL.low,List.length_map]
  rw[List.take_length] at hL
  exact⟨_,_,_,_,rfl,hL⟩
 ·rintro _ ⟨v,A,N,ex,rfl,hL⟩
  obtain⟨A',k1,k2⟩:=hL.fin
  have k3:=k1 19998
  simp only[go_sem,reduceCtorEq,↓reduceIte,nA,nB,nC,nD,nE,iA,iB,iC,iD,iE,iF,hL.low,k3]
  exact congrArg (Prod.mk _) (back_wa k2 lst_alow)
end Go.Am
