/- Part 5 of a machine for Go's pure part and of walks on it. -/
import Derived.Test.YtlogfeflmlfghaaGreatM4
import Derived.Deep.MidRow
import Derived.Laws.AppendOwn
import Derived.RowKit2
import Derived.Laws.StructEq
import Derived.Laws.Tables
import Derived.Laws.Pointers
import Derived.Deep.AppendSrc
import Derived.Below
open Nat renaming reduceEqDiff → nA,reduceAdd → nB,reduceLeDiff → nC,reduceLT → nD,reduceMul → nE
open Int renaming reduceBEq → iA,reduceBNe → iB,reduceLT → iC,reduceLE → iD,reduceGT → iE,reduceGE → iF
set_option maxRecDepth 100000
set_option linter.unusedSimpArgs false
set_option linter.unusedVariables false
set_option linter.unusedSectionVars false
namespace Go.Am
open Go
theorem psum_mono {α:Type} {f:α→Nat} {l:List α} {i j:Nat} (h:i≤j):psum f l i≤psum f l j:=by
 unfold psum
 have:l.take j=l.take i++(l.take j).drop i:=by
  have:=(List.take_append_drop i (l.take j)).symm
  rwa [List.take_take,Nat.min_eq_left h] at this
 rw[this,List.map_append,List.sum_append]
 omega
structure PtS (s:St) (sb eb pb ab:Nat) (zs:List AV) (Cs:List AV) (ops:List Rop) (v:AV) (xs:List Xp):Prop where
 s1:obj s sb=some (.cells [.sl (.st 2) zs])
 s2:obj s eb=some (.cells Cs)
 s3:obj s pb=some (.cells [.clo 129 [.ref sb 0,.ref eb 0,.ref pb 0,.ref ab 0]])
 s4:obj s ab=some (.cells [v])
 hc:∃ c0 c1 c2 c3 c4 c5 c7 c8,Cs=[c0,c1,c2,c3,c4,c5,lst (.st 4) (ops.map Rop.bv),c7,c8]
 gr:∃ d,Gr s.arr s.nxt (.st 9) v (xs.map Xp.av) d
 hz:zs.length=ops.length
 hx:xs.length=ops.length+1
 sp:∀ z∈zs,isSpan z
 ho:ops.length≤300000
theorem PtS.ex {s sb eb pb ab zs Cs ops v xs} (h:PtS s sb eb pb ab zs Cs ops v xs) (l:List Ob):PtS (Am.ex s l) sb eb pb ab zs Cs ops v xs :=
 ⟨(ex_old (obj_lt h.s1)).trans h.s1,(ex_old (obj_lt h.s2)).trans h.s2,(ex_old (obj_lt h.s3)).trans h.s3,(ex_old (obj_lt h.s4)).trans h.s4,h.hc,h.gr,h.hz,h.hx,h.sp,h.ho⟩
theorem PtS.wa {s sb eb pb ab zs Cs ops v xs A N} (h:PtS s sb eb pb ab zs Cs ops v xs) (hA:Old s.nxt A s.arr) (hN:s.nxt≤N):PtS (Am.wa s A N) sb eb pb ab zs Cs ops v xs :=
 ⟨h.s1,h.s2,h.s3,h.s4,h.hc,by obtain⟨d,hd⟩:=h.gr;exact⟨d,hd.mono fun b hb=>⟨hA b (hd.lt hb),by have:=hd.lt hb;show b<N;omega⟩⟩,h.hz,h.hx,h.sp,h.ho⟩
theorem part_w:∀ (n from' to':Nat) (s:St) (sb eb pb ab:Nat) (zs Cs:List AV) (ops:List Rop) (v:AV) (xs:List Xp),to' - from'<n→from'≤to'→to'≤ops.length→PtS s sb eb pb ab zs Cs ops v xs →
  W (C F0 X0 129 [.i .i64 (from':Nat),.i .i64 (to':Nat),.ref sb 0,.ref eb 0,.ref pb 0,.ref ab 0] s) fun q=>∃ r:Xp,q=(r.av,s)∧r.sz+psum Xp.sz xs from'≤psum Xp.sz xs (to'+1)+3*(to' - from'):=by
 intro n
 induction n with
 | zero=>intro f t s sb eb pb ab zs Cs ops v xs h;omega
 | succ n ih =>
  intro from' to' s sb eb pb ab zs Cs ops v xs hn hft hto hP
  obtain⟨s1,s2,s3,s4,⟨c0,c1,c2,c3,c4,c5,c7,c8,rfl⟩,⟨d,hgr⟩,hz,hx,sp,hops⟩:=id hP
  have k1:=obj_lt s1
  have k2:=obj_lt s2
  have k3:=obj_lt s3
  have k4:=obj_lt s4
  rw[w_call (f:=129) rfl]
  simp only[go_sem,reduceCtorEq,↓reduceIte,nA,nB,nC,nD,nE,iA,iB,iC,iD,iE,iF]
  have hEnv0:∃ en:List (Nat × AV),en=[(0,.i .i64 (from':Nat)),(1,.i .i64 (to':Nat)),(2,.ref sb 0),(3,.ref eb 0),(4,.ref pb 0),(5,.ref ab 0),(8,.ref (cnt s) 0)]:=⟨_,rfl⟩
  refine W.step (W.range (n:=to') (L:=l129_0) (Q:=fun q=>(∃ e,q=(.exit 0,e,ex s [.cells [.i .i64 0,.s [],.i .i64 0,.nsl,.nsl,.nsl,.nsl,.i .i64 0,.i .i64 0]])∧get e 5=some (.ref ab 0)∧get e 0=some (.i .i64 (from':Nat))∧get e 8=some (.ref (cnt s) 0))∨∃ (r:Xp) (w3 w4 w5 w6:AV) (kd nn ll cc:Int) (nm:Str) (m:Nat) (D:List Nat) (A:Nat→Option (List AV)) (N:Nat) (ob:List Ob),q=(.ret,[(8,.ref (cnt s) 0)],wa (ex s (.cells [.i .i64 kd,.s nm,.i .i64 nn,w3,w4,w5,w6,.i .i64 ll,.i .i64 cc]::ob)) A N)∧AppV s A N w3 w4 w5 w6 kd nn ll cc nm r m D∧m≤3∧r.sz+psum Xp.sz xs from'≤psum Xp.sz xs (to'+1)+3*(to' - from')) rfl (fun i e t=>e=[(0,.i .i64 (from':Nat)),(1,.i .i64 (to':Nat)),(2,.ref sb 0),(3,.ref eb 0),(4,.ref pb 0),(5,.ref ab 0),(8,.ref (cnt s) 0),(9,.i .i64 (i:Int))]∧t=ex s [.cells [.i .i64 0,.s [],.i .i64 0,.nsl,.nsl,.nsl,.nsl,.i .i64 0,.i .i64 0]]∧from'≤i) ?_ ?_ from' _ _ hft ⟨rfl,rfl,Nat.le_refl _⟩) ?_
  ·rintro i e t ⟨rfl,rfl,hfi⟩ hi
   have h3:decide ((i:Int)<(to':Int))=true:=by simp;omega
   have h5:=@wrap_one i (by omega)
   have hzi:i<zs.length:=by omega
   obtain⟨za,zb,hzab⟩:=sp zs[i] (List.getElem_mem hzi)
   have g1:∀ k,aiad (.st 2) (.sl (.st 2) zs) (.i k (i:Int))=some (.ep [.i .i64 za,.i .i64 zb] 0):=fun k=>by
    unfold aiad
    dsimp only
    rw[if_pos ⟨by omega,rfl⟩,Int.toNat_natCast,List.getElem?_eq_getElem hzi,hzab]
    rfl
   have hio:i<ops.length:=by omega
   have g2:∀ k,aiad (.st 4) (lst (.st 4) (ops.map Rop.bv)) (.i k (i:Int))=some (.ep ops[i].bv.cells 0):=fun k=>lst_iad rfl (by rw[List.getElem?_map,List.getElem?_eq_getElem hio];rfl)
   generalize ops[i]=o at g2
   obtain⟨nm,ol,oc,ox⟩:=o
   have hob:(Rop.mk nm ol oc ox).bv.cells=[.s nm,.nsl,.i .i64 ol,.i .i64 oc]:=rfl
   rw[hob] at g2
   simp only[go_sem,reduceCtorEq,↓reduceIte,nA,nB,nC,nD,nE,iA,iB,iC,iD,iE,iF,h3,k1,k2,k3,k4,s1,s2,s3,s4,g1,g2]
   refine W.ifc (fun d=>?_) (fun d=>?_)
   ·simp only[go_sem,reduceCtorEq,↓reduceIte,nA,nB,nC,nD,nE,iA,iB,iC,iD,iE,iF,d,k1,k2,k3,k4,s1,s2,s3,s4,g1,g2]
    refine W.step (ih from' i _ sb eb pb ab zs _ ops v xs (by omega) hfi (by omega) (hP.ex _)) ?_
    rintro _ ⟨r1,rfl,hr1⟩
    simp only[go_sem,reduceCtorEq,↓reduceIte,nA,nB,nC,nD,nE,iA,iB,iC,iD,iE,iF,d,k1,k2,k3,k4,s1,s2,s3,s4,g1,g2,h5]
    refine W.step (ih (i+1) to' _ sb eb pb ab zs _ ops v xs (by omega) (by omega) hto ((hP.ex _).wa (old_upd Old.refl (Nat.le_refl _)) (Nat.le_succ _))) ?_
    rintro _ ⟨r2,rfl,hr2⟩
    have V2:=((AppV.init s (Xp.gen .var nm 0 [] [] [] [] ol oc)).app (Nat.le_refl _) r1).app (by omega) r2
    rw[Xp.cells_eq,Xp.cells_eq] at V2
    simp only[go_sem,reduceCtorEq,↓reduceIte,nA,nB,nC,nD,nE,iA,iB,iC,iD,iE,iF,d,k1,k2,k3,k4,s1,s2,s3,s4,g1,g2,h5]
    refine .inr ⟨_,_,_,_,_,_,_,_,_,_,_,_,_,_,_,rfl,V2,by omega,?_⟩
    show 1+(1+(1+0+0+0+0)+r1.sz)+r2.sz+_≤_
    omega
   ·simp only[go_sem,reduceCtorEq,↓reduceIte,nA,nB,nC,nD,nE,iA,iB,iC,iD,iE,iF,d,h5,k1,k2,k3,k4]
    omega
  ·rintro e t ⟨rfl,rfl,hfi⟩
   have h3:decide ((to':Int)<(to':Int))=false:=by simp
   simp only[go_sem,reduceCtorEq,↓reduceIte,nA,nB,nC,nD,nE,iA,iB,iC,iD,iE,iF,h3,k1,k2,k3,k4]
   exact .inl ⟨_,rfl,rfl,rfl,rfl⟩
  ·rintro q (⟨e,rfl,e5,e0,e8⟩|⟨r,w3,w4,w5,w6,kd,nn,ll,cc,nm,m,D,A,N,ob,rfl,hV,hm,hsz⟩)
   ·have hfx:from'<xs.length:=by omega
    obtain⟨p1,q1,q2,-⟩:=(hgr.rd (by decide)).ld from' xs[from'].av (by rw[List.getElem?_map,List.getElem?_eq_getElem hfx];rfl)
    have hps:=psum_succ (f:=Xp.sz) (List.getElem?_eq_getElem hfx)
    generalize xs[from']=r at q2 hps
    have q2':=fun l=>q2 (ex s l) rfl
    simp only[go_sem,reduceCtorEq,↓reduceIte,nA,nB,nC,nD,nE,iA,iB,iC,iD,iE,iF,e5,e0,e8,k4,s4,q1,q2']
    refine⟨r,rfl,?_⟩
    have:=psum_mono (f:=Xp.sz) (l:=xs) (show from'+1≤to'+1 by omega)
    omega
   ·obtain⟨hB,hfz⟩:=hV.fin (by omega)
    obtain⟨o3,o4,o5,o6⟩:=hV.one
    have l3:=fun n=>(hV.lo n).1
    have l4:=fun n=>(hV.lo n).2.1
    have l5:=fun n=>(hV.lo n).2.2.1
    have l6:=fun n=>(hV.lo n).2.2.2
    simp only[go_sem,reduceCtorEq,↓reduceIte,nA,nB,nC,nD,nE,iA,iB,iC,iD,iE,iF,o3,o4,o5,o6,l3,l4,l5,l6,hfz]
    rw[back_wa hB (Xp.alow _)]
    exact⟨r,rfl,hsz⟩
end Go.Am
namespace Go.Am
open Go
theorem GS.set {s r v fs b e l c} (h:GS s r v fs b e l c) (b':Bool) (e' l' c':Int):GS (setOb s r (gob v b' e' l' c')) r v fs b' e' l' c':=⟨obj_set (obj_lt h.ob),h.gr,h.len⟩
theorem GS.ex {s r v fs b e l c} (h:GS s r v fs b e l c) (o:List Ob):GS (Am.ex s o) r v fs b e l c:=⟨(ex_old (obj_lt h.ob)).trans h.ob,h.gr,h.len⟩
theorem GS.wa {s r v fs b e l c A N} (h:GS s r v fs b e l c) (hA:Old s.nxt A s.arr) (hN:s.nxt≤N):GS (Am.wa s A N) r v fs b e l c :=
 ⟨h.ob,by obtain⟨d,hd⟩:=h.gr;exact⟨d,hd.mono fun i hi=>⟨hA i (hd.lt hi),by have:=hd.lt hi;show i<N;omega⟩⟩,h.len⟩
theorem GS.of {s S r v fs b e l c b' e' l' c'} (h:GS s r v fs b e l c) (hob:obj S r=some (gob v b' e' l' c')) (hA:Old s.nxt S.arr s.arr) (hN:s.nxt≤S.nxt):GS S r v fs b' e' l' c' :=
 ⟨hob,by obtain⟨d,hd⟩:=h.gr;exact⟨d,hd.mono fun i hi=>⟨hA i (hd.lt hi),by have:=hd.lt hi;omega⟩⟩,h.len⟩
abbrev GXQ (s:St) (r:Nat) (v:AV) (z:Nat) (q:AV × St):Prop:=∃ (e':Xp) (b':Bool) (e1 l1 c1:Int),q=(e'.av,setOb s r (gob v b' e1 l1 c1))∧e'.sz≤z
abbrev GExpL (n:Nat):Prop:=∀ (x:Xp) (s:St) (r:Nat) (v:AV) (fs:List FixT) (b:Bool) (e l c:Int),x.sz<n→x.sz≤300000→GS s r v fs b e l c→W (C F0 X0 66 [.ref r 0,x.av] s) (GXQ s r v x.sz)
theorem Gr.repl {A N el v xs y d x} (h:Gr A N el v (xs++[y]) d) (hx:Ele el x) (hlow:x.low 0=true) (hpos:0<el.size):∃ j cs,v=.os j el (xs.length+1)∧d=some j ∧
  (∀ bs u,astore bs el.size (wa u A N) x (.aref j (xs.length*el.size))=some (.un,wa u (upd A j (some cs)) N))∧Gr (upd A j (some cs)) N el v (xs++[x]) d:=by
 obtain⟨h0,⟨-,hh,-⟩|⟨j,cs,rfl,h1,h2,h3,rfl⟩⟩:=h
 ·simp at hh
 have hxl:x.cells.length=el.size:=hx.elem.2.1
 have hyl:y.cells.length=el.size:=(h0 y (by simp)).elem.2.1
 have hxs:(xs.flatMap AV.cells).length=xs.length*el.size:=flat_len fun z hz=>h0 z (List.mem_append_left _ hz)
 have hll:(xs++[y]).length*el.size=xs.length*el.size+el.size:=by rw[List.length_append,Nat.add_mul];simp
 rw[hll] at h2
 have hcl:xs.length*el.size+el.size≤cs.length:=by
  have:=congrArg List.length h2
  rw[List.length_take,List.flatMap_append,List.length_append,hxs] at this
  simp only[List.flatMap_cons,List.flatMap_nil,List.append_nil,hyl] at this
  omega
 have h4:cs.take (xs.length*el.size)=xs.flatMap AV.cells:=by
  have:=congrArg (List.take (xs.length*el.size)) h2
  rw[List.take_take,Nat.min_eq_left (by omega),List.flatMap_append,List.take_append_of_le_length (Nat.le_of_eq hxs.symm),List.take_of_length_le (Nat.le_of_eq hxs)] at this
  exact this
 refine⟨j,splice cs (xs.length*el.size) x.cells,by rw[List.length_append];rfl,rfl,fun bs u=>?_,fun z hz=>?_,.inr ⟨j,_,by rw[List.length_append,List.length_append];rfl,upd_same,?_,h3,rfl⟩⟩
 ·show (match A j with|some cs=>_|none=>none)=_
  rw[h1]
  dsimp only
  rw[if_pos ⟨hxl,hpos,hcl,hlow⟩]
  rfl
 ·rcases List.mem_append.1 hz with hz|hz
  ·exact h0 z (List.mem_append_left _ hz)
  ·rw[List.mem_singleton.1 hz];exact hx
 ·unfold splice
  rw[List.length_append,Nat.add_mul,h4,List.flatMap_append]
  have e1:(xs.flatMap AV.cells++x.cells).length=xs.length*el.size+[x].length*el.size:=by rw[List.length_append,hxs,hxl];simp
  rw[List.take_append_of_le_length (Nat.le_of_eq e1.symm),List.take_of_length_le (Nat.le_of_eq e1)]
  simp
theorem W.stepq {α β:Type} {Q:α→Prop} {R:β→Prop} {x:Option α} {k:α→Option β} (h:W x Q) (hk:∀ r,x=some r→Q r→W (k r) R):W (x.bind k) R:=by
 obtain⟨r,h1,h2⟩:=h
 have:=hk r h1 h2
 rw[h1]
 exact this
theorem grown_step (n:Nat) (hexp:GExpL n) (a:Xp) (ops:List Rop) (s:St) (r:Nat) (v:AV) (fs:List FixT) (e l c:Int) (hn:(Xp.row a ops).sz<n+1) (hsz:(Xp.row a ops).sz≤300000) (hS:GS s r v fs false e l c):W (C F0 X0 108 [.ref r 0,(Xp.row a ops).av] s) (GXQ s r v (Xp.row a ops).sz):=by
 have ho:=hS.ob
 have hk:=obj_lt ho
 have hrs:(Xp.row a ops).sz=1+a.sz+Rop.szs ops:=rfl
 have hol:=Rop.szs_len ops
 rw[←Rop.szs_sum] at hol
 rw[w_call (f:=108) rfl]
 simp only[go_sem,reduceCtorEq,↓reduceIte,nA,nB,nC,nD,nE,iA,iB,iC,iD,iE,iF,hk]
 refine W.step (spans_w a ops (hS.ex _) (by omega)) ?_
 rintro _ ⟨w,b,e',l',c',rfl,hw,hwl,hwa,hwo⟩
 have hbad:∀ b' x y z,ldk .one 1 (some (gob v b' x y z))=some (.b b'):=fun _ _ _ _=>rfl
 simp only[go_sem,reduceCtorEq,↓reduceIte,nA,nB,nC,nD,nE,iA,iB,iC,iD,iE,iF,hk,hwl,hwo,hbad]
 refine W.ifc (fun d=>?_) (fun d=>?_)
 ·simp only[go_sem,reduceCtorEq,↓reduceIte,nA,nB,nC,nD,nE,iA,iB,iC,iD,iE,iF,d,hk]
  exact⟨.row a ops,true,_,_,_,rfl,Nat.le_refl _⟩
 ·obtain⟨zs,rfl,hz1,hz2⟩:=hw d
  obtain⟨dg,hgr⟩:=hS.gr
  have hal:(Xp.row a ops).args.length=ops.length+1:=by simp[Xp.args]
  have hasum:((Xp.row a ops).args.map Xp.sz).sum+3*ops.length+1=1+a.sz+Rop.szs ops:=by
   have:=rops_sum ops
   have h2:(List.map Xp.sz (List.map Rop.x ops)).sum=(ops.map (fun o=>o.x.sz)).sum:=by rw[List.map_map];rfl
   simp only[Xp.args,List.map_cons,List.sum_cons,h2]
   omega
  have hbv:(Xp.row a ops).bvs=ops.map Rop.bv:=rfl
  have hai:∀ (j:Nat) (hj:j<(Xp.row a ops).args.length) k,aiad (.st 9) (lst (.st 9) ((Xp.row a ops).args.map Xp.av)) (.i k (j:Int))=some (.ep (Xp.row a ops).args[j].av.cells 0):=fun j hj k=>lst_iad rfl (by rw[List.getElem?_map,List.getElem?_eq_getElem hj];rfl)
  simp only[go_sem,reduceCtorEq,↓reduceIte,nA,nB,nC,nD,nE,iA,iB,iC,iD,iE,iF,d,hk,hbv]
  generalize hxs:(Xp.row a ops).args=as at hal hasum hai ⊢
  obtain⟨c0,c1,c2,c3,c5,c7,c8,hcc⟩:∃ c0 c1 c2 c3 c5 c7 c8,c0=AV.i .i64 (Xp.row a ops).kind∧c1=AV.s (Xp.row a ops).name∧c2=AV.i .i64 (Xp.row a ops).n∧c3=lst .one (strs (Xp.row a ops).params)∧c5=lst (.st 7) ((Xp.row a ops).alts.map Alt.av)∧c7=AV.i .i64 (Xp.row a ops).l∧c8=AV.i .i64 (Xp.row a ops).c:=⟨_,_,_,_,_,_,_,rfl,rfl,rfl,rfl,rfl,rfl,rfl⟩
  obtain⟨h0,h1,h2,h3,h5,h7,h8⟩:=hcc
  rw[←h0,←h1,←h2,←h3,←h5,←h7,←h8]
  refine W.step (W.range (n:=as.length) (L:=l108_0) (Q:=fun q=>∃ (ys:List Xp) (vv:AV) (A:Nat→Option (List AV)) (N:Nat) (b:Bool) (e1 l1 m1:Int),q=(.exit 0,[(0,.ref r 0),(3,.ref (cnt s) 0),(4,.ref (cnt s+1) 0),(5,.ref (cnt s+2) 0),(6,.ref (cnt s+3) 0),(19,lst (.st 9) (as.map Xp.av)),(20,.i .i64 (as.length:Int)),(21,.i .i64 (as.length:Int)),(22,.b false)],wa (Am.ex (setOb s r (gob v b e1 l1 m1)) [.cells [c0,c1,c2,c3,lst (.st 9) (as.map Xp.av),c5,lst (.st 4) (ops.map Rop.bv),c7,c8],.cells [.i .i64 0,.s [],.i .i64 0,.nsl,.nsl,.nsl,.nsl,.i .i64 0,.i .i64 0],.cells [.sl (.st 2) zs],.cells [vv]]) A N)∧Loc s.arr s.nxt A N (.st 9) vv (ys.map Xp.av)∧ys.length=as.length∧(ys.map Xp.sz).sum≤psum Xp.sz as as.length) rfl (fun i en t=>∃ (ys:List Xp) (vv:AV) (A:Nat→Option (List AV)) (N:Nat) (b:Bool) (e1 l1 m1:Int),en=[(0,.ref r 0),(3,.ref (cnt s) 0),(4,.ref (cnt s+1) 0),(5,.ref (cnt s+2) 0),(6,.ref (cnt s+3) 0),(19,lst (.st 9) (as.map Xp.av)),(20,.i .i64 (as.length:Int)),(21,.i .i64 (i:Int))]∧t=wa (Am.ex (setOb s r (gob v b e1 l1 m1)) [.cells [c0,c1,c2,c3,lst (.st 9) (as.map Xp.av),c5,lst (.st 4) (ops.map Rop.bv),c7,c8],.cells [.i .i64 0,.s [],.i .i64 0,.nsl,.nsl,.nsl,.nsl,.i .i64 0,.i .i64 0],.cells [.sl (.st 2) zs],.cells [vv]]) A N∧Loc s.arr s.nxt A N (.st 9) vv (ys.map Xp.av)∧ys.length=i∧(ys.map Xp.sz).sum≤psum Xp.sz as i) ?_ ?_ 0 _ _ (Nat.zero_le _) ⟨[],.nsl,s.arr,s.nxt,false,_,_,_,rfl,rfl,Loc.nil,rfl,Nat.le_refl _⟩) ?_
  ·rintro i en t ⟨ys,vv,A,N,b,e1,l1,m1,rfl,rfl,hL,hys,hsum⟩ hi
   have g1:=hai i hi
   have hps:=psum_succ (f:=Xp.sz) (List.getElem?_eq_getElem hi)
   have hpl:=@psum_le _ Xp.sz as (i+1)
   generalize as[i]=x at g1 hps
   have g3:decide ((i:Int)<(as.length:Int))=true:=by simp;omega
   have g5:=@wrap_one i (by omega)
   have hlen:=hL.len
   rw[List.length_map] at hlen
   have hone:vv.cells=[vv]:=by obtain⟨d,h,-⟩:=hL;exact h.one
   simp only[go_sem,reduceCtorEq,↓reduceIte,nA,nB,nC,nD,nE,iA,iB,iC,iD,iE,iF,g1,g3,g5,hk,hL.low,hlen,hone]
   have hNn:s.nxt≤N:=by obtain⟨_,_,_,_,h,_⟩:=hL;exact h
   refine W.stepq (hexp x _ r v fs b e1 l1 m1 (by omega) (by omega) (hS.of (by simp only[go_sem,hk]) (by exact old_upd hL.old hNn) (by show s.nxt≤N+1;omega))) ?_
   rintro _ hcq ⟨x',b2,e2,l2,m2,rfl,hxs'⟩
   obtain⟨v',A',N',p1,p2⟩:=hL.push (y:=(Xp.gen .zero [] 0 [] [] [] [] 0 0).av) (cy:=[.i .i64 0,.s [],.i .i64 0,.nsl,.nsl,.nsl,.nsl,.i .i64 0,.i .i64 0]) rfl (Xp.ele _) (by simp;have:=Xp.szs_len ys;unfold most;omega)
   obtain⟨dd,q1,q2,q3,q4,q5⟩:=p2
   obtain⟨j,cs,rfl,rfl,q6,q7⟩:=q1.repl x'.ele (x'.low) (by decide)
   have hj:=q2 j rfl
   rw[List.length_map] at q6 p1
   have hia:∀ k,aiad (.st 9) (.os j (.st 9) (ys.length+1)) (.i k (ys.length:Int))=some (.aref j (ys.length*9)):=fun k=>by
    unfold aiad
    dsimp only
    rw[if_pos ⟨by omega,by omega,rfl⟩,Int.toNat_natCast]
    rfl
   have q6':∀ bs u,astore bs 9 (wa u A' N') x'.av (.aref j (ys.length*9))=some (.un,wa u (upd A' j (some cs)) N'):=q6
   have hno:∀ el m,AV.cells (.os j el m)=[.os j el m]:=fun _ _=>rfl
   simp only[go_sem,reduceCtorEq,↓reduceIte,nA,nB,nC,nD,nE,iA,iB,iC,iD,iE,iF,g1,g3,g5,hk,hL.low,hlen,hone,p1,hia,q6',hno]
   refine W.try ?_ ?_
   ·simp only[go_sem,reduceCtorEq,↓reduceIte,nA,nB,nC,nD,nE,iA,iB,iC,iD,iE,iF,g1,g3,g5,hk,hL.low,hlen,hone,p1,hia,q6',hno,hcq]
   simp only[go_sem,reduceCtorEq,↓reduceIte,nA,nB,nC,nD,nE,iA,iB,iC,iD,iE,iF,g1,g3,g5,hk,hL.low,hlen,hone,p1,hia,q6',hno]
   exact⟨ys++[x'],_,_,N',b2,e2,l2,m2,rfl,⟨some j,by simpa using q7,q2,old_upd q3 hj,q4,by simp⟩,by simp;omega,by simp;omega⟩
  ·rintro en t ⟨ys,vv,A,N,b,e1,l1,m1,rfl,rfl,hL,hys,hsum⟩
   have g3:decide ((as.length:Int)<(as.length:Int))=false:=by simp
   simp only[go_sem,reduceCtorEq,↓reduceIte,nA,nB,nC,nD,nE,iA,iB,iC,iD,iE,iF,g3,hk,hL.low]
   exact⟨ys,vv,A,N,b,e1,l1,m1,rfl,hL,hys,hsum⟩
  ·rintro q ⟨ys,vv,A,N,b,e1,l1,m1,rfl,hL,hys,hsum⟩
   have hlen:=hL.len
   rw[List.length_map,hys,hal] at hlen
   have hw1:IntKind.i64.wrap (((ops.length+1:Nat):Int) - 1)=(ops.length:Int):=by rw[←wrap_nat (n:=ops.length) (by omega)];congr 1;omega
   have hold:=hL.old
   obtain⟨dd,hgr2,hdd,-,hNn,-⟩:=id hL
   simp only[go_sem,reduceCtorEq,↓reduceIte,nA,nB,nC,nD,nE,iA,iB,iC,iD,iE,iF,hk,hL.low,hlen,hw1]
   refine W.step (part_w (ops.length+1) 0 ops.length _ (cnt s+2) (cnt s) (cnt s+4) (cnt s+3) zs [c0,c1,c2,c3,lst (.st 9) (as.map Xp.av),c5,lst (.st 4) (ops.map Rop.bv),c7,c8] ops vv ys (by omega) (by omega) (Nat.le_refl _) ⟨by simp only[go_sem],by simp only[go_sem],by simp only[go_sem],by simp only[go_sem],⟨c0,c1,c2,c3,_,c5,c7,c8,rfl⟩,⟨dd,hgr2⟩,hz1,by omega,hz2,by omega⟩) ?_
   rintro _ ⟨x',rfl,hx'⟩
   simp only[go_sem,reduceCtorEq,↓reduceIte,nA,nB,nC,nD,nE,iA,iB,iC,iD,iE,iF,hk,hL.low]
   unfold gob
   rw[back_was hold (Xp.alow _) (by simp only[alowL_cons,alowL_nil,alow_b,alow_i,hgr.alow (fun i hi=>hgr.lt hi),Bool.and_true])]
   have h11:=@psum_le _ Xp.sz ys (ops.length+1)
   have h12:=@psum_le _ Xp.sz as as.length
   rw[psum_0] at hx'
   exact⟨x',b,e1,l1,m1,rfl,by omega⟩
end Go.Am
namespace Go.Am
open Go
abbrev GRQ (s:St) (r:Nat) (v:AV) (k:Nat) (z:Nat) (q:AV × St):Prop:=∃ (rs':List Rhs) (b':Bool) (e1 l1 c1:Int),q=(lst (.st 10) (rs'.map Rhs.av),setOb s r (gob v b' e1 l1 c1))∧(rs'.map Rhs.sz).sum≤z
theorem grhs_step (n:Nat) (hexp:GExpL n) (rs:List Rhs) (s:St) (r:Nat) (v:AV) (fs:List FixT) (b:Bool) (e l c:Int) (hn:(rs.map Rhs.sz).sum<n+1) (hsz:(rs.map Rhs.sz).sum≤300000) (hS:GS s r v fs b e l c):W (C F0 X0 35 [.ref r 0,lst (.st 10) (rs.map Rhs.av)] s) (GRQ s r v rs.length (rs.map Rhs.sz).sum):=by
 have ho:=hS.ob
 have hk:=obj_lt ho
 obtain⟨dg,hgr⟩:=hS.gr
 have hrl:=Rhs.szs_len rs
 have hai:∀ (j:Nat) (hj:j<rs.length) k,aiad (.st 10) (lst (.st 10) (rs.map Rhs.av)) (.i k (j:Int))=some (.ep rs[j].av.cells 0):=fun j hj k=>lst_iad rfl (by rw[List.getElem?_map,List.getElem?_eq_getElem hj];rfl)
 rw[w_call (f:=35) rfl]
 simp only[go_sem,reduceCtorEq,↓reduceIte,nA,nB,nC,nD,nE,iA,iB,iC,iD,iE,iF,hk,List.length_map]
 refine W.step (W.range (n:=rs.length) (L:=l35_1) (Q:=fun q=>∃ (ys:List Rhs) (vv:AV) (A:Nat→Option (List AV)) (N:Nat) (D:List Nat) (b:Bool) (e1 l1 m1:Int),q=(.exit 0,[(0,.ref r 0),(5,vv),(11,lst (.st 10) (rs.map Rhs.av)),(12,.i .i64 (rs.length:Int)),(13,.i .i64 (rs.length:Int)),(14,.b false)],wa (setOb s r (gob v b e1 l1 m1)) A N)∧NR 2 s.arr s.nxt A N (.st 10) vv (ys.map Rhs.av) D∧ys.length=rs.length∧(ys.map Rhs.sz).sum≤psum Rhs.sz rs rs.length) rfl (fun i en t=>∃ (ys:List Rhs) (vv:AV) (A:Nat→Option (List AV)) (N:Nat) (D:List Nat) (b:Bool) (e1 l1 m1:Int),en=[(0,.ref r 0),(5,vv),(11,lst (.st 10) (rs.map Rhs.av)),(12,.i .i64 (rs.length:Int)),(13,.i .i64 (i:Int))]∧t=wa (setOb s r (gob v b e1 l1 m1)) A N∧NR 2 s.arr s.nxt A N (.st 10) vv (ys.map Rhs.av) D∧ys.length=i∧(ys.map Rhs.sz).sum≤psum Rhs.sz rs i) ?_ ?_ 0 _ _ (Nat.zero_le _) ⟨[],.nsl,s.arr,s.nxt,[],b,e,l,c,rfl,by rw[set_id ho];rfl,NR.nil,rfl,Nat.le_refl _⟩) ?_
 ·rintro i en t ⟨ys,vv,A,N,D,b,e1,l1,m1,rfl,rfl,hL,hys,hsum⟩ hi
  have g1:=hai i hi
  have hps:=psum_succ (f:=Rhs.sz) (List.getElem?_eq_getElem hi)
  have hpl:=@psum_le _ Rhs.sz rs (i+1)
  generalize rs[i]=x at g1 hps
  have g3:decide ((i:Int)<(rs.length:Int))=true:=by simp;omega
  have g5:=@wrap_one i (by omega)
  have hxs:=Rhs.sz_eq x
  have hgl:=Xp.szs_len x.guard
  have hgi:∀ (j:Nat) (hj:j<x.guard.length) k,aiad (.st 9) (lst (.st 9) (x.guard.map Xp.av)) (.i k (j:Int))=some (.ep x.guard[j].av.cells 0):=fun j hj k=>lst_iad rfl (by rw[List.getElem?_map,List.getElem?_eq_getElem hj];rfl)
  have hNn:s.nxt≤N:=hL.2.2.1
  have hold:=hL.2.1
  obtain⟨ll,hll⟩:∃ ll:List Ob,ll=[.cells [lst (.st 9) (x.guard.map Xp.av),.i .i64 x.body.kind,.s x.body.name,.i .i64 x.body.n,lst .one (strs x.body.params),lst (.st 9) (x.body.args.map Xp.av),lst (.st 7) (x.body.alts.map Alt.av),lst (.st 4) x.body.bvs,.i .i64 x.body.l,.i .i64 x.body.c]]:=⟨_,rfl⟩
  simp only[go_sem,reduceCtorEq,↓reduceIte,nA,nB,nC,nD,nE,iA,iB,iC,iD,iE,iF,g1,g3,g5,hk,hL.low,List.length_map]
  refine W.step (W.range (n:=x.guard.length) (L:=l35_0) (Q:=fun q=>∃ (gs:List Xp) (vg:AV) (A2:Nat→Option (List AV)) (N2:Nat) (b:Bool) (e1 l1 m1:Int),q=(.exit 2,[(0,.ref r 0),(5,vv),(7,.ref (cnt s) 0),(8,vg),(11,lst (.st 10) (rs.map Rhs.av)),(12,.i .i64 (rs.length:Int)),(13,.i .i64 (i:Int)),(18,lst (.st 9) (x.guard.map Xp.av)),(19,.i .i64 (x.guard.length:Int)),(20,.i .i64 (x.guard.length:Int)),(21,.b false)],wa (Am.ex (setOb s r (gob v b e1 l1 m1)) ll) A2 N2)∧Loc A N A2 N2 (.st 9) vg (gs.map Xp.av)∧(gs.map Xp.sz).sum≤psum Xp.sz x.guard x.guard.length) rfl (fun j en t=>∃ (gs:List Xp) (vg:AV) (A2:Nat→Option (List AV)) (N2:Nat) (b:Bool) (e1 l1 m1:Int),en=[(0,.ref r 0),(5,vv),(7,.ref (cnt s) 0),(8,vg),(11,lst (.st 10) (rs.map Rhs.av)),(12,.i .i64 (rs.length:Int)),(13,.i .i64 (i:Int)),(18,lst (.st 9) (x.guard.map Xp.av)),(19,.i .i64 (x.guard.length:Int)),(20,.i .i64 (j:Int))]∧t=wa (Am.ex (setOb s r (gob v b e1 l1 m1)) ll) A2 N2∧Loc A N A2 N2 (.st 9) vg (gs.map Xp.av)∧(gs.map Xp.sz).sum≤psum Xp.sz x.guard j) ?_ ?_ 0 _ _ (Nat.zero_le _) ⟨[],.nsl,A,N,b,e1,l1,m1,rfl,by rw[hll],Loc.nil,Nat.le_refl _⟩) ?_
  ·rintro j en t ⟨gs,vg,A2,N2,b,e1,l1,m1,rfl,rfl,hG,hgs⟩ hj
   have q1:=hgi j hj
   have qps:=psum_succ (f:=Xp.sz) (List.getElem?_eq_getElem hj)
   have qpl:=@psum_le _ Xp.sz x.guard (j+1)
   generalize x.guard[j]=y at q1 qps
   have q3:decide ((j:Int)<(x.guard.length:Int))=true:=by simp;omega
   have q5:=@wrap_one j (by omega)
   have hlo:=hL.low
   have hN2:N≤N2:=by obtain⟨_,_,_,_,h,_⟩:=hG;exact h
   have hold2:Old s.nxt A2 s.arr:=fun i hi=>(hG.old i (by omega)).trans (hold i hi)
   simp only[go_sem,reduceCtorEq,↓reduceIte,nA,nB,nC,nD,nE,iA,iB,iC,iD,iE,iF,q1,q3,q5,hk,hlo,hG.low,hll]
   refine W.step (hexp y _ r v fs b e1 l1 m1 (by omega) (by omega) (hS.of (by simp only[go_sem,hk]) hold2 (by show s.nxt≤N2;omega))) ?_
   rintro _ ⟨y',b2,e2,l2,m2,rfl,hys'⟩
   obtain⟨v',A',N',p1,p2⟩:=hG.push (y:=y'.av) (cy:=y'.av.cells) rfl y'.ele (by have:=Xp.szs_len gs;simp;unfold most;omega)
   rw[Xp.cells_eq] at p1
   simp only[go_sem,reduceCtorEq,↓reduceIte,nA,nB,nC,nD,nE,iA,iB,iC,iD,iE,iF,q5,hk,hlo,hG.low,p1,p2.low,hll]
   exact⟨gs++[y'],v',A',N',b2,e2,l2,m2,rfl,rfl,by rw[List.map_append];exact p2,by simp;omega⟩
  ·rintro en t ⟨gs,vg,A2,N2,b,e1,l1,m1,rfl,rfl,hG,hgs⟩
   have q3:decide ((x.guard.length:Int)<(x.guard.length:Int))=false:=by simp
   simp only[go_sem,reduceCtorEq,↓reduceIte,nA,nB,nC,nD,nE,iA,iB,iC,iD,iE,iF,q3,hk,hL.low,hG.low,hll]
   exact⟨gs,vg,A2,N2,b,e1,l1,m1,rfl,hG,hgs⟩
  ·rintro q ⟨gs,vg,A2,N2,b,e1,l1,m1,rfl,hG,hgs⟩
   have hone:vg.cells=[vg]:=by obtain⟨d,h,-⟩:=hG;exact h.one
   have hN2:N≤N2:=by obtain⟨_,_,_,_,h,_⟩:=hG;exact h
   have hold2:Old s.nxt A2 s.arr:=fun i hi=>(hG.old i (by omega)).trans (hold i hi)
   have qpl:=@psum_le _ Xp.sz x.guard x.guard.length
   simp only[go_sem,reduceCtorEq,↓reduceIte,nA,nB,nC,nD,nE,iA,iB,iC,iD,iE,iF,hk,hL.low,hG.low,hll,hone]
   have hbz:=Xp.sz_pos x.body
   refine W.step (hexp x.body _ r v fs b e1 l1 m1 (by omega) (by omega) (hS.of (by simp only[go_sem,hk]) hold2 (by show s.nxt≤N2;omega))) ?_
   rintro _ ⟨y',b2,e2,l2,m2,rfl,hys'⟩
   obtain⟨dg2,f1,f2,f3,f4,f5⟩:=id hG
   have hfz:FzL 2 A2 (vg::y'.av.cells) (Rhs.mk gs y').av.cells dg2.toList:=by
    have h1:=(f1.fz f5).app (FzL.scal (A:=A2) (xp_finc y')).up (by simp)
    rw[Rhs.cells_eq]
    rw[Xp.cells_eq] at h1 ⊢
    simpa[Rhs.guard,Rhs.body] using h1
   obtain⟨v',A',N',D',p1,p2,p3,p4,p5,-⟩:=hL.push (A1:=A2) (N1:=N2) (c:=vg::y'.av.cells) (x:=(Rhs.mk gs y').av) f3 hN2 hfz (fun a ha=>⟨f2 a (toList_lt ha),f1.lt (toList_lt ha)⟩) (by rw[Xp.cells_eq];simp[lowL_cons,lowL_nil,lst_low,low_i,low_s,hG.low]) (by rw[Xp.cells_eq];rfl) (Rhs.mk gs y').ele (by simp;unfold most;omega)
   rw[Xp.cells_eq] at p1
   simp only[go_sem,reduceCtorEq,↓reduceIte,nA,nB,nC,nD,nE,iA,iB,iC,iD,iE,iF,g5,hk,hL.low,hG.low,hone,p1,p2.low]
   refine⟨ys++[.mk gs y'],v',A',N',D',b2,e2,l2,m2,rfl,rfl,by rw[List.map_append];exact p2,by simp;omega,?_⟩
   have h7:=Rhs.sz_eq (Rhs.mk gs y')
   simp only[Rhs.guard,Rhs.body] at h7
   simp
   omega
 ·rintro en t ⟨ys,vv,A,N,D,b,e1,l1,m1,rfl,rfl,hL,hys,hsum⟩
  have g3:decide ((rs.length:Int)<(rs.length:Int))=false:=by simp
  simp only[go_sem,reduceCtorEq,↓reduceIte,nA,nB,nC,nD,nE,iA,iB,iC,iD,iE,iF,g3,hk,hL.low]
  exact⟨ys,vv,A,N,D,b,e1,l1,m1,rfl,hL,hys,hsum⟩
 ·rintro q ⟨ys,vv,A,N,D,b,e1,l1,m1,rfl,hL,hys,hsum⟩
  have k1:=fun u=>(hL.fz (by omega)).use 19997 u N
  have k2:=hL.old
  have hpl:=@psum_le _ Rhs.sz rs rs.length
  simp only[go_sem,reduceCtorEq,↓reduceIte,nA,nB,nC,nD,nE,iA,iB,iC,iD,iE,iF,hk,hL.low,k1]
  unfold gob
  rw[back_was k2 lst_alow (by simp only[alowL_cons,alowL_nil,alow_b,alow_i,hgr.alow (fun i hi=>hgr.lt hi),Bool.and_true])]
  exact⟨ys,b,e1,l1,m1,rfl,by omega⟩
end Go.Am
namespace Go.Am
open Go
abbrev GBQ (s:St) (r:Nat) (v:AV) (z m:Nat) (q:AV × St):Prop:=∃ (rs':List Bnd) (b':Bool) (e1 l1 c1:Int),q=(lst (.st 4) (rs'.map Bnd.av),setOb s r (gob v b' e1 l1 c1))∧(rs'.map Bnd.sz).sum≤z∧rs'.length=m
theorem gbinds_step (n:Nat) (hexp:GExpL n) (rs:List Bnd) (s:St) (r:Nat) (v:AV) (fs:List FixT) (b:Bool) (e l c:Int) (hn:(rs.map Bnd.sz).sum<n+1) (hsz:(rs.map Bnd.sz).sum≤300000) (hS:GS s r v fs b e l c):W (C F0 X0 17 [.ref r 0,lst (.st 4) (rs.map Bnd.av)] s) (GBQ s r v (rs.map Bnd.sz).sum rs.length):=by
 have ho:=hS.ob
 have hk:=obj_lt ho
 obtain⟨dg,hgr⟩:=hS.gr
 have hrl:=Bnd.szs_len rs
 have hai:∀ (j:Nat) (hj:j<rs.length) k,aiad (.st 4) (lst (.st 4) (rs.map Bnd.av)) (.i k (j:Int))=some (.ep rs[j].av.cells 0):=fun j hj k=>lst_iad rfl (by rw[List.getElem?_map,List.getElem?_eq_getElem hj];rfl)
 rw[w_call (f:=17) rfl]
 simp only[go_sem,reduceCtorEq,↓reduceIte,nA,nB,nC,nD,nE,iA,iB,iC,iD,iE,iF,hk,List.length_map]
 refine W.step (W.range (n:=rs.length) (L:=l17_1) (Q:=fun q=>∃ (ys:List Bnd) (vv:AV) (A:Nat→Option (List AV)) (N:Nat) (D:List Nat) (b:Bool) (e1 l1 m1:Int),q=(.exit 0,[(0,.ref r 0),(5,vv),(11,lst (.st 4) (rs.map Bnd.av)),(12,.i .i64 (rs.length:Int)),(13,.i .i64 (rs.length:Int)),(14,.b false)],wa (setOb s r (gob v b e1 l1 m1)) A N)∧NR 2 s.arr s.nxt A N (.st 4) vv (ys.map Bnd.av) D∧ys.length=rs.length∧(ys.map Bnd.sz).sum≤psum Bnd.sz rs rs.length) rfl (fun i en t=>∃ (ys:List Bnd) (vv:AV) (A:Nat→Option (List AV)) (N:Nat) (D:List Nat) (b:Bool) (e1 l1 m1:Int),en=[(0,.ref r 0),(5,vv),(11,lst (.st 4) (rs.map Bnd.av)),(12,.i .i64 (rs.length:Int)),(13,.i .i64 (i:Int))]∧t=wa (setOb s r (gob v b e1 l1 m1)) A N∧NR 2 s.arr s.nxt A N (.st 4) vv (ys.map Bnd.av) D∧ys.length=i∧(ys.map Bnd.sz).sum≤psum Bnd.sz rs i) ?_ ?_ 0 _ _ (Nat.zero_le _) ⟨[],.nsl,s.arr,s.nxt,[],b,e,l,c,rfl,by rw[set_id ho];rfl,NR.nil,rfl,Nat.le_refl _⟩) ?_
 ·rintro i en t ⟨ys,vv,A,N,D,b,e1,l1,m1,rfl,rfl,hL,hys,hsum⟩ hi
  have g1:=hai i hi
  have hps:=psum_succ (f:=Bnd.sz) (List.getElem?_eq_getElem hi)
  have hpl:=@psum_le _ Bnd.sz rs (i+1)
  generalize rs[i]=x at g1 hps
  have g3:decide ((i:Int)<(rs.length:Int))=true:=by simp;omega
  have g5:=@wrap_one i (by omega)
  have hxs:=Bnd.sz_eq x
  have hgl:=Clause.szs_len x.cls
  have hgi:∀ (j:Nat) (hj:j<x.cls.length) k,aiad (.st 2) (lst (.st 2) (x.cls.map Clause.av)) (.i k (j:Int))=some (.ep x.cls[j].av.cells 0):=fun j hj k=>lst_iad rfl (by rw[List.getElem?_map,List.getElem?_eq_getElem hj];rfl)
  have hNn:s.nxt≤N:=hL.2.2.1
  have hold:=hL.2.1
  obtain⟨ll,hll⟩:∃ ll:List Ob,ll=[.cells [.s x.name,lst (.st 2) (x.cls.map Clause.av),.i .i64 x.l,.i .i64 x.c]]:=⟨_,rfl⟩
  simp only[go_sem,reduceCtorEq,↓reduceIte,nA,nB,nC,nD,nE,iA,iB,iC,iD,iE,iF,g1,g3,g5,hk,hL.low,List.length_map]
  refine W.step (W.range (n:=x.cls.length) (L:=l17_0) (Q:=fun q=>∃ (gs:List Clause) (vg:AV) (A2:Nat→Option (List AV)) (N2:Nat) (b:Bool) (e1 l1 m1:Int),q=(.exit 2,[(0,.ref r 0),(5,vv),(7,.ref (cnt s) 0),(8,vg),(11,lst (.st 4) (rs.map Bnd.av)),(12,.i .i64 (rs.length:Int)),(13,.i .i64 (i:Int)),(18,lst (.st 2) (x.cls.map Clause.av)),(19,.i .i64 (x.cls.length:Int)),(20,.i .i64 (x.cls.length:Int)),(21,.b false)],wa (Am.ex (setOb s r (gob v b e1 l1 m1)) ll) A2 N2)∧Loc A N A2 N2 (.st 2) vg (gs.map Clause.av)∧gs.length=x.cls.length∧(gs.map Clause.sz).sum≤psum Clause.sz x.cls x.cls.length) rfl (fun j en t=>∃ (gs:List Clause) (vg:AV) (A2:Nat→Option (List AV)) (N2:Nat) (b:Bool) (e1 l1 m1:Int),en=[(0,.ref r 0),(5,vv),(7,.ref (cnt s) 0),(8,vg),(11,lst (.st 4) (rs.map Bnd.av)),(12,.i .i64 (rs.length:Int)),(13,.i .i64 (i:Int)),(18,lst (.st 2) (x.cls.map Clause.av)),(19,.i .i64 (x.cls.length:Int)),(20,.i .i64 (j:Int))]∧t=wa (Am.ex (setOb s r (gob v b e1 l1 m1)) ll) A2 N2∧Loc A N A2 N2 (.st 2) vg (gs.map Clause.av)∧gs.length=j∧(gs.map Clause.sz).sum≤psum Clause.sz x.cls j) ?_ ?_ 0 _ _ (Nat.zero_le _) ⟨[],.nsl,A,N,b,e1,l1,m1,rfl,by rw[hll],Loc.nil,rfl,Nat.le_refl _⟩) ?_
  ·rintro j en t ⟨gs,vg,A2,N2,b,e1,l1,m1,rfl,rfl,hG,hgn,hgs⟩ hj
   have q1:=hgi j hj
   have qps:=psum_succ (f:=Clause.sz) (List.getElem?_eq_getElem hj)
   have qpl:=@psum_le _ Clause.sz x.cls (j+1)
   generalize x.cls[j]=y at q1 qps
   have hys0:=Clause.sz_eq y
   have q3:decide ((j:Int)<(x.cls.length:Int))=true:=by simp;omega
   have q5:=@wrap_one j (by omega)
   have hlo:=hL.low
   have hN2:N≤N2:=by obtain⟨_,_,_,_,h,_⟩:=hG;exact h
   have hold2:Old s.nxt A2 s.arr:=fun i hi=>(hG.old i (by omega)).trans (hold i hi)
   simp only[go_sem,reduceCtorEq,↓reduceIte,nA,nB,nC,nD,nE,iA,iB,iC,iD,iE,iF,q1,q3,q5,hk,hlo,hG.low,hll]
   refine W.step (grhs_step n hexp y.rhs _ r v fs b e1 l1 m1 (by omega) (by omega) (hS.of (by simp only[go_sem,hk]) hold2 (by show s.nxt≤N2;omega))) ?_
   rintro _ ⟨y',b2,e2,l2,m2,rfl,hys'⟩
   obtain⟨v',A',N',p1,p2⟩:=hG.push (y:=(Clause.mk y.pats y').av) (cy:=(Clause.mk y.pats y').av.cells) rfl (Clause.ele _) (by have:=Clause.szs_len gs;simp;unfold most;omega)
   have hcc:(Clause.mk y.pats y').av.cells=[lst (.st 6) (y.pats.map Pat.av),lst (.st 10) (y'.map Rhs.av)]:=by rw[Clause.cells_eq];rfl
   rw[hcc] at p1
   simp only[go_sem,reduceCtorEq,↓reduceIte,nA,nB,nC,nD,nE,iA,iB,iC,iD,iE,iF,q5,hk,hlo,hG.low,p1,p2.low,hll]
   refine⟨gs++[.mk y.pats y'],v',A',N',b2,e2,l2,m2,rfl,rfl,by rw[List.map_append];exact p2,by simp;omega,?_⟩
   have h7:(Clause.mk y.pats y').sz=1+(y.pats.map Pat.sz).sum+(y'.map Rhs.sz).sum:=Clause.sz_eq _
   simp
   omega
  ·rintro en t ⟨gs,vg,A2,N2,b,e1,l1,m1,rfl,rfl,hG,hgn,hgs⟩
   have q3:decide ((x.cls.length:Int)<(x.cls.length:Int))=false:=by simp
   simp only[go_sem,reduceCtorEq,↓reduceIte,nA,nB,nC,nD,nE,iA,iB,iC,iD,iE,iF,q3,hk,hL.low,hG.low,hll]
   exact⟨gs,vg,A2,N2,b,e1,l1,m1,rfl,hG,hgn,hgs⟩
  ·rintro q ⟨gs,vg,A2,N2,b,e1,l1,m1,rfl,hG,hgn,hgs⟩
   have hone:vg.cells=[vg]:=by obtain⟨d,h,-⟩:=hG;exact h.one
   have hN2:N≤N2:=by obtain⟨_,_,_,_,h,_⟩:=hG;exact h
   have qpl:=@psum_le _ Clause.sz x.cls x.cls.length
   obtain⟨g0,gt,rfl⟩:∃ g0 gt,gs=g0::gt:=by
    cases gs with
    | nil=>simp[Bnd.cls] at hgn
    | cons g gt=>exact⟨g,gt,rfl⟩
   obtain⟨dg2,f1,f2,f3,f4,f5⟩:=id hG
   have hcb:(Bnd.mk x.name g0 gt x.l x.c).av.cells=[.s x.name,lst (.st 2) ((g0::gt).map Clause.av),.i .i64 x.l,.i .i64 x.c]:=by rw[Bnd.cells_eq];rfl
   have hfz:FzL 2 A2 [.s x.name,vg,.i .i64 x.l,.i .i64 x.c] (Bnd.mk x.name g0 gt x.l x.c).av.cells dg2.toList:=by
    have h1:=((FzL.scal (A:=A2) (vs:=[.s x.name]) rfl).up.app (f1.fz f5) (by simp)).app (FzL.scal (A:=A2) (vs:=[.i .i64 x.l,.i .i64 x.c]) rfl).up (by simp)
    rw[hcb]
    simpa using h1
   obtain⟨v',A',N',D',p1,p2,p3,p4,p5,-⟩:=hL.push (A1:=A2) (N1:=N2) (c:=[.s x.name,vg,.i .i64 x.l,.i .i64 x.c]) (x:=(Bnd.mk x.name g0 gt x.l x.c).av) f3 hN2 hfz (fun a ha=>⟨f2 a (toList_lt ha),f1.lt (toList_lt ha)⟩) (by simp[lowL_cons,lowL_nil,low_i,low_s,hG.low]) rfl (Bnd.ele _) (by simp;unfold most;omega)
   simp only[go_sem,reduceCtorEq,↓reduceIte,nA,nB,nC,nD,nE,iA,iB,iC,iD,iE,iF,g5,hk,hL.low,hG.low,hll,hone,p1,p2.low]
   refine⟨ys++[.mk x.name g0 gt x.l x.c],v',A',N',D',b,e1,l1,m1,rfl,rfl,by rw[List.map_append];exact p2,by simp;omega,?_⟩
   have h7:=Bnd.sz_eq (Bnd.mk x.name g0 gt x.l x.c)
   have h8:(Bnd.mk x.name g0 gt x.l x.c).cls=g0::gt:=rfl
   rw[h8] at h7
   simp at hgs h7 ⊢
   omega
 ·rintro en t ⟨ys,vv,A,N,D,b,e1,l1,m1,rfl,rfl,hL,hys,hsum⟩
  have g3:decide ((rs.length:Int)<(rs.length:Int))=false:=by simp
  simp only[go_sem,reduceCtorEq,↓reduceIte,nA,nB,nC,nD,nE,iA,iB,iC,iD,iE,iF,g3,hk,hL.low]
  exact⟨ys,vv,A,N,D,b,e1,l1,m1,rfl,hL,hys,hsum⟩
 ·rintro q ⟨ys,vv,A,N,D,b,e1,l1,m1,rfl,hL,hys,hsum⟩
  have k1:=fun u=>(hL.fz (by omega)).use 19997 u N
  have k2:=hL.old
  have hpl:=@psum_le _ Bnd.sz rs rs.length
  simp only[go_sem,reduceCtorEq,↓reduceIte,nA,nB,nC,nD,nE,iA,iB,iC,iD,iE,iF,hk,hL.low,k1]
  unfold gob
  rw[back_was k2 lst_alow (by simp only[alowL_cons,alowL_nil,alow_b,alow_i,hgr.alow (fun i hi=>hgr.lt hi),Bool.and_true])]
  exact⟨ys,b,e1,l1,m1,rfl,by omega,hys⟩
end Go.Am
namespace Go.Am
open Go
theorem gx_fz {s:St} {A2 A3:Nat→Option (List AV)} {N2 N3:Nat} {vg va:AV} {gs:List Xp} {als:List Alt} {bs:List Bnd} {kd nn ll cc:Int} {nm:Str} {ps:List Str} (h:Loc s.arr s.nxt A2 N2 (.st 9) vg (gs.map Xp.av)) (k:Loc A2 N2 A3 N3 (.st 7) va (als.map Alt.av)) :
  ∃ B,Old s.nxt B s.arr∧∀ u,frz 20000 (.agg [.i .i64 kd,.s nm,.i .i64 nn,lst .one (strs ps),vg,va,lst (.st 4) (bs.map Bnd.av),.i .i64 ll,.i .i64 cc]) (wa u A3 N3)=some (.agg [.i .i64 kd,.s nm,.i .i64 nn,lst .one (strs ps),lst (.st 9) (gs.map Xp.av),lst (.st 7) (als.map Alt.av),lst (.st 4) (bs.map Bnd.av),.i .i64 ll,.i .i64 cc],wa u B N3):=by
 obtain⟨d1,h1,h2,h3,h4,h5⟩:=h
 obtain⟨d2,k1,k2,k3,k4,k5⟩:=k
 have q1:FzL 2 A3 [.i .i64 kd,.s nm,.i .i64 nn,lst .one (strs ps)] [.i .i64 kd,.s nm,.i .i64 nn,lst .one (strs ps)] []:=(FzL.scal (by simp[lst_scals finL_strs];exact⟨rfl,rfl,rfl⟩)).up
 have q2:FzL 2 A3 [vg] [lst (.st 9) (gs.map Xp.av)] d1.toList:=(h1.fz h5).mono fun a ha=>k3 a (h1.lt (toList_lt ha))
 have q3:FzL 2 A3 [va] [lst (.st 7) (als.map Alt.av)] d2.toList:=k1.fz k5
 have q4:FzL 2 A3 [lst (.st 4) (bs.map Bnd.av),.i .i64 ll,.i .i64 cc] [lst (.st 4) (bs.map Bnd.av),.i .i64 ll,.i .i64 cc] []:=(FzL.scal (by simp[lst_scals bnd_finl];exact⟨rfl,rfl⟩)).up
 have q:=((q1.app q2 (by simp)).app q3 (by intro a ha;simp;intro hm;have:=h1.lt hm;have:=k2 a (toList_lt ha);omega)).app q4 (by simp)
 refine⟨_,clr_old (D:=(([]++d1.toList)++d2.toList)++[]) (A:=A3) (fun a ha=>(k3 a (by omega)).trans (h3 a ha)) (fun a ha=>?_),fun u=>q.agg (n:=19997)⟩
 simp at ha
 rcases ha with ha|ha
 ·exact h2 a ha
 ·have:=k2 a ha;omega
theorem gexpr_step (n:Nat) (hexp:GExpL n):GExpL (n+1):=by
 intro x s r v fs b e l c hn hsz hS
 have ho:=hS.ob
 have hk:=obj_lt ho
 obtain⟨dg,hgr⟩:=hS.gr
 have hge:=Xp.sz_ge x
 have hbad:∀ b' x y z,ldk .one 1 (some (gob v b' x y z))=some (.b b'):=fun _ _ _ _=>rfl
 rw[w_call (f:=66) rfl]
 simp only[go_sem,reduceCtorEq,↓reduceIte,nA,nB,nC,nD,nE,iA,iB,iC,iD,iE,iF,hk,ho,hbad]
 refine W.ifc (fun d=>?_) (fun d=>?_)
 ·simp only[go_sem,reduceCtorEq,↓reduceIte,nA,nB,nC,nD,nE,iA,iB,iC,iD,iE,iF,d]
  exact⟨x,b,e,l,c,by rw[set_id ho],Nat.le_refl _⟩
 ·subst d
  simp only[go_sem,reduceCtorEq,↓reduceIte,nA,nB,nC,nD,nE,iA,iB,iC,iD,iE,iF,hk]
  refine W.ifc (fun d=>?_) (fun d=>?_)
  ·obtain⟨a,ops,rfl⟩:∃ a ops,x=.row a ops:=by
    cases x with
    | app a b l c=>simp[Xp.kind] at d
    | row a ops=>exact⟨a,ops,rfl⟩
    | gen k nm m ps as al bs l c=>cases k<;>simp[Xp.kind,GK.int'] at d
   simp only[go_sem,reduceCtorEq,↓reduceIte,nA,nB,nC,nD,nE,iA,iB,iC,iD,iE,iF,d,hk]
   refine W.step (grown_step n hexp a ops _ r v fs e l c hn hsz (hS.ex _)) ?_
   rintro _ ⟨x',b2,e2,l2,m2,rfl,hx'⟩
   simp only[go_sem,reduceCtorEq,↓reduceIte,nA,nB,nC,nD,nE,iA,iB,iC,iD,iE,iF,hk]
   exact⟨x',b2,e2,l2,m2,rfl,hx'⟩
  ·have hkd:x.kind ≠ -1:=by simpa using d
   have hbv:=Xp.bvs_eq hkd
   simp only[go_sem,reduceCtorEq,↓reduceIte,nA,nB,nC,nD,nE,iA,iB,iC,iD,iE,iF,d,hk,hbv]
   refine W.step (gbinds_step n hexp x.binds _ r v fs false e l c (by omega) (by omega) (hS.ex _)) ?_
   rintro _ ⟨bs',b2,e2,l2,m2,rfl,hbs',-⟩
   have hgl:=Xp.szs_len x.args
   have hal:=sum_len (f:=Alt.sz) (l:=x.alts) fun y _=>by cases y;unfold Alt.sz;omega
   have hgi:∀ (j:Nat) (hj:j<x.args.length) k,aiad (.st 9) (lst (.st 9) (x.args.map Xp.av)) (.i k (j:Int))=some (.ep x.args[j].av.cells 0):=fun j hj k=>lst_iad rfl (by rw[List.getElem?_map,List.getElem?_eq_getElem hj];rfl)
   have hli:∀ (j:Nat) (hj:j<x.alts.length) k,aiad (.st 7) (lst (.st 7) (x.alts.map Alt.av)) (.i k (j:Int))=some (.ep x.alts[j].av.cells 0):=fun j hj k=>lst_iad rfl (by rw[List.getElem?_map,List.getElem?_eq_getElem hj];rfl)
   simp only[go_sem,reduceCtorEq,↓reduceIte,nA,nB,nC,nD,nE,iA,iB,iC,iD,iE,iF,hk,List.length_map]
   obtain⟨ll,hll⟩:∃ ll:List Ob,ll=[.cells [.i .i64 x.kind,.s x.name,.i .i64 x.n,lst .one (strs x.params),lst (.st 9) (x.args.map Xp.av),lst (.st 7) (x.alts.map Alt.av),lst (.st 4) (bs'.map Bnd.av),.i .i64 x.l,.i .i64 x.c],.cells [.i .i64 0,.s [],.i .i64 0,.nsl,.nsl,.nsl,.nsl,.i .i64 0,.i .i64 0]]:=⟨_,rfl⟩
   refine W.step (W.range (n:=x.args.length) (L:=l66_0) (Q:=fun q=>∃ (gs:List Xp) (vg:AV) (A2:Nat→Option (List AV)) (N2:Nat) (b:Bool) (e1 l1 m1:Int),q=(.exit 0,[(0,.ref r 0),(3,.ref (cnt s) 0),(4,.ref (cnt s+1) 0),(5,vg),(28,lst (.st 9) (x.args.map Xp.av)),(29,.i .i64 (x.args.length:Int)),(30,.i .i64 (x.args.length:Int)),(31,.b false)],wa (Am.ex (setOb s r (gob v b e1 l1 m1)) ll) A2 N2)∧Loc s.arr s.nxt A2 N2 (.st 9) vg (gs.map Xp.av)∧gs.length=x.args.length∧(gs.map Xp.sz).sum≤psum Xp.sz x.args x.args.length) rfl (fun j en t=>∃ (gs:List Xp) (vg:AV) (A2:Nat→Option (List AV)) (N2:Nat) (b:Bool) (e1 l1 m1:Int),en=[(0,.ref r 0),(3,.ref (cnt s) 0),(4,.ref (cnt s+1) 0),(5,vg),(28,lst (.st 9) (x.args.map Xp.av)),(29,.i .i64 (x.args.length:Int)),(30,.i .i64 (j:Int))]∧t=wa (Am.ex (setOb s r (gob v b e1 l1 m1)) ll) A2 N2∧Loc s.arr s.nxt A2 N2 (.st 9) vg (gs.map Xp.av)∧gs.length=j∧(gs.map Xp.sz).sum≤psum Xp.sz x.args j) ?_ ?_ 0 _ _ (Nat.zero_le _) ⟨[],.nsl,s.arr,s.nxt,b2,e2,l2,m2,rfl,by rw[hll];rfl,Loc.nil,rfl,Nat.le_refl _⟩) ?_
   ·rintro j en t ⟨gs,vg,A2,N2,b,e1,l1,m1,rfl,rfl,hG,hgn,hgs⟩ hj
    have q1:=hgi j hj
    have qps:=psum_succ (f:=Xp.sz) (List.getElem?_eq_getElem hj)
    have qpl:=@psum_le _ Xp.sz x.args (j+1)
    generalize x.args[j]=y at q1 qps
    have q3:decide ((j:Int)<(x.args.length:Int))=true:=by simp;omega
    have q5:=@wrap_one j (by omega)
    have hN2:s.nxt≤N2:=by obtain⟨_,_,_,_,h,_⟩:=hG;exact h
    simp only[go_sem,reduceCtorEq,↓reduceIte,nA,nB,nC,nD,nE,iA,iB,iC,iD,iE,iF,q1,q3,q5,hk,hG.low,hll]
    refine W.step (hexp y _ r v fs b e1 l1 m1 (by omega) (by omega) (hS.of (by simp only[go_sem,hk]) hG.old hN2)) ?_
    rintro _ ⟨y',b3,e3,l3,m3,rfl,hys'⟩
    obtain⟨v',A',N',p1,p2⟩:=hG.push (y:=y'.av) (cy:=y'.av.cells) rfl y'.ele (by have:=Xp.szs_len gs;simp;unfold most;omega)
    rw[Xp.cells_eq] at p1
    simp only[go_sem,reduceCtorEq,↓reduceIte,nA,nB,nC,nD,nE,iA,iB,iC,iD,iE,iF,q5,hk,hG.low,p1,p2.low,hll]
    exact⟨gs++[y'],v',A',N',b3,e3,l3,m3,rfl,rfl,by rw[List.map_append];exact p2,by simp;omega,by simp;omega⟩
   ·rintro en t ⟨gs,vg,A2,N2,b,e1,l1,m1,rfl,rfl,hG,hgn,hgs⟩
    have q3:decide ((x.args.length:Int)<(x.args.length:Int))=false:=by simp
    simp only[go_sem,reduceCtorEq,↓reduceIte,nA,nB,nC,nD,nE,iA,iB,iC,iD,iE,iF,q3,hk,hG.low,hll]
    exact⟨gs,vg,A2,N2,b,e1,l1,m1,rfl,hG,hgn,hgs⟩
   ·rintro q ⟨gs,vg,A2,N2,b,e1,l1,m1,rfl,hG,hgn,hgs⟩
    have hone:vg.cells=[vg]:=by obtain⟨d,h,-⟩:=hG;exact h.one
    simp only[go_sem,reduceCtorEq,↓reduceIte,nA,nB,nC,nD,nE,iA,iB,iC,iD,iE,iF,hk,hG.low,hll,hone,List.length_map]
    have key:∀ (L1 C1:Int),(∀ als':List Alt,als'.length=x.alts.length→(als'.map Alt.sz).sum≤(x.alts.map Alt.sz).sum→∃ rr:Xp,rr.av=.agg [.i .i64 x.kind,.s x.name,.i .i64 x.n,lst .one (strs x.params),lst (.st 9) (gs.map Xp.av),lst (.st 7) (als'.map Alt.av),lst (.st 4) (bs'.map Bnd.av),.i .i64 L1,.i .i64 C1]∧rr.sz≤x.sz)→W
      ((E F0 X0 (cnt s) l66_1
       [(0,AV.ref r 0),(3,AV.ref (cnt s) 0),(4,AV.ref (cnt s+1) 0),(8,AV.nsl),
        (52,lst (El.st 7) (List.map Alt.av x.alts)),(53,AV.i IntKind.i64 ↑x.alts.length),
        (54,AV.i IntKind.i64 0)]
       (wa
        (Am.ex (setOb s r (gob v b e1 l1 m1))
         [Ob.cells
           [AV.i IntKind.i64 x.kind,AV.s x.name,AV.i IntKind.i64 x.n,lst El.one (strs x.params),vg,
            lst (El.st 7) (List.map Alt.av x.alts),lst (El.st 4) (List.map Bnd.av bs'),AV.i IntKind.i64 L1,
            AV.i IntKind.i64 C1],
          Ob.cells
           [AV.i IntKind.i64 0,AV.s [],AV.i IntKind.i64 0,AV.nsl,AV.nsl,AV.nsl,AV.nsl,AV.i IntKind.i64 0,
            AV.i IntKind.i64 0]])
        A2 N2)).bind
     (kc
      (kc (bkk 2)
       (sqk F0 X0 (cnt s) ((ACode.reg (some [3,4]) o66_22).seq ((ACode.reg (some [4]) o66_23).seq ACode.ret))))
      (fk s [(Arg.t 4,some (El.st 9))] true)))
      (GXQ s r v x.sz):=by
     intro L1 C1 hrr
     have hN2:s.nxt≤N2:=by obtain⟨_,_,_,_,h,_⟩:=hG;exact h
     obtain⟨l2,hl2⟩:∃ l2:List Ob,l2=[.cells [.i .i64 x.kind,.s x.name,.i .i64 x.n,lst .one (strs x.params),vg,lst (.st 7) (x.alts.map Alt.av),lst (.st 4) (bs'.map Bnd.av),.i .i64 L1,.i .i64 C1],.cells [.i .i64 0,.s [],.i .i64 0,.nsl,.nsl,.nsl,.nsl,.i .i64 0,.i .i64 0]]:=⟨_,rfl⟩
     rw[←hl2]
     refine W.step (W.range (n:=x.alts.length) (L:=l66_1) (Q:=fun q=>∃ (as:List Alt) (va:AV) (A3:Nat→Option (List AV)) (N3:Nat) (b:Bool) (e1 l1 m1:Int),q=(.exit 2,[(0,.ref r 0),(3,.ref (cnt s) 0),(4,.ref (cnt s+1) 0),(8,va),(52,lst (.st 7) (x.alts.map Alt.av)),(53,.i .i64 (x.alts.length:Int)),(54,.i .i64 (x.alts.length:Int)),(55,.b false)],wa (Am.ex (setOb s r (gob v b e1 l1 m1)) l2) A3 N3)∧Loc A2 N2 A3 N3 (.st 7) va (as.map Alt.av)∧as.length=x.alts.length∧(as.map Alt.sz).sum≤psum Alt.sz x.alts x.alts.length) rfl (fun j en t=>∃ (as:List Alt) (va:AV) (A3:Nat→Option (List AV)) (N3:Nat) (b:Bool) (e1 l1 m1:Int),en=[(0,.ref r 0),(3,.ref (cnt s) 0),(4,.ref (cnt s+1) 0),(8,va),(52,lst (.st 7) (x.alts.map Alt.av)),(53,.i .i64 (x.alts.length:Int)),(54,.i .i64 (j:Int))]∧t=wa (Am.ex (setOb s r (gob v b e1 l1 m1)) l2) A3 N3∧Loc A2 N2 A3 N3 (.st 7) va (as.map Alt.av)∧as.length=j∧(as.map Alt.sz).sum≤psum Alt.sz x.alts j) ?_ ?_ 0 _ _ (Nat.zero_le _) ⟨[],.nsl,A2,N2,b,e1,l1,m1,rfl,rfl,Loc.nil,rfl,Nat.le_refl _⟩) ?_
     ·rintro j en t ⟨as,va,A3,N3,b,e1,l1,m1,rfl,rfl,hL,has,hsum⟩ hj
      have q1:=hli j hj
      have qps:=psum_succ (f:=Alt.sz) (List.getElem?_eq_getElem hj)
      have qpl:=@psum_le _ Alt.sz x.alts (j+1)
      generalize x.alts[j]=y at q1 qps
      have hy0:=Alt.sz_eq y
      have hpz:=y.pat.sz_pos
      have q3:decide ((j:Int)<(x.alts.length:Int))=true:=by simp;omega
      have q5:=@wrap_one j (by omega)
      have hN3:N2≤N3:=by obtain⟨_,_,_,_,h,_⟩:=hL;exact h
      have hold3:Old s.nxt A3 s.arr:=fun i hi=>(hL.old i (by omega)).trans (hG.old i hi)
      simp only[go_sem,reduceCtorEq,↓reduceIte,nA,nB,nC,nD,nE,iA,iB,iC,iD,iE,iF,q1,q3,q5,hk,hL.low,hl2]
      refine W.step (grhs_step n hexp y.rhs _ r v fs b e1 l1 m1 (by omega) (by omega) (hS.of (by simp only[go_sem,hk]) hold3 (by show s.nxt≤N3;omega))) ?_
      rintro _ ⟨y',b3,e3,l3,m3,rfl,hys'⟩
      have hcc:(Alt.mk y.pat y').av.cells=[.i .i64 y.pat.kind,.s y.pat.name,.i .i64 y.pat.n,lst (.st 6) (y.pat.args.map Pat.av),.i .i64 y.pat.l,.i .i64 y.pat.c,lst (.st 10) (y'.map Rhs.av)]:=by rw[Alt.cells_eq];rfl
      obtain⟨v',A',N',p1,p2⟩:=hL.push (y:=(Alt.mk y.pat y').av) (cy:=(Alt.mk y.pat y').av.cells) rfl (Alt.ele _) (by simp;unfold most;omega)
      rw[hcc] at p1
      simp only[go_sem,reduceCtorEq,↓reduceIte,nA,nB,nC,nD,nE,iA,iB,iC,iD,iE,iF,q5,hk,hL.low,p1,p2.low,hl2]
      have h7:(Alt.mk y.pat y').sz=1+y.pat.sz+(y'.map Rhs.sz).sum:=Alt.sz_eq _
      exact⟨as++[.mk y.pat y'],v',A',N',b3,e3,l3,m3,rfl,rfl,by rw[List.map_append];exact p2,by simp;omega,by simp;omega⟩
     ·rintro en t ⟨as,va,A3,N3,b,e1,l1,m1,rfl,rfl,hL,has,hsum⟩
      have q3:decide ((x.alts.length:Int)<(x.alts.length:Int))=false:=by simp
      simp only[go_sem,reduceCtorEq,↓reduceIte,nA,nB,nC,nD,nE,iA,iB,iC,iD,iE,iF,q3,hk,hL.low,hl2]
      exact⟨as,va,A3,N3,b,e1,l1,m1,rfl,hL,has,hsum⟩
     ·rintro q ⟨as,va,A3,N3,b,e1,l1,m1,rfl,hL,has,hsum⟩
      have honea:va.cells=[va]:=by obtain⟨d,h,-⟩:=hL;exact h.one
      obtain⟨B,hB,hfz⟩:=gx_fz (s:=s) (kd:=x.kind) (nn:=x.n) (ll:=L1) (cc:=C1) (nm:=x.name) (ps:=x.params) (bs:=bs') hG hL
      obtain⟨rr,hr1,hr2⟩:=hrr as has (Nat.le_trans hsum psum_le)
      rw[←hr1] at hfz
      simp only[go_sem,reduceCtorEq,↓reduceIte,nA,nB,nC,nD,nE,iA,iB,iC,iD,iE,iF,hk,hL.low,hG.low,hl2,honea,hone,hfz]
      unfold gob
      rw[back_was hB (Xp.alow _) (by simp only[alowL_cons,alowL_nil,alow_b,alow_i,hgr.alow (fun i hi=>hgr.lt hi),Bool.and_true])]
      exact⟨rr,b,e1,l1,m1,rfl,hr2⟩
    refine W.ifc (fun d4=>?_) (fun d4=>?_)
    ·obtain⟨a,b',hab⟩:=Xp.app_args (e:=x) (by simpa using d4)
     obtain⟨g0,gt,rfl⟩:∃ g0 gt,gs=g0::gt:=by
      cases gs with
      | nil=>rw[hab] at hgn;simp at hgn
      | cons g gt=>exact⟨g,gt,rfl⟩
     obtain⟨p1,q1,q2,q3⟩:=(hG.rd (by decide)).ld 0 g0.av rfl
     obtain⟨p2,q4,q5⟩:=q3 7 (.st 2) (by rw[Xp.cells_eq];show 7+2≤9;omega)
     have q1':∀ k,aiad (.st 9) vg (.i k 0)=some p1:=q1
     have q5':∀ u,aload (wa u A2 N2) (.st 2) p2=some (.agg [.i .i64 g0.l,.i .i64 g0.c]):=fun u=>by rw[q5 _ rfl,Xp.cells_eq];rfl
     simp only[go_sem,reduceCtorEq,↓reduceIte,nA,nB,nC,nD,nE,iA,iB,iC,iD,iE,iF,d4,hk,hG.low,q1',q4,q5',List.length_map]
     refine key g0.l g0.c fun als' hl1 hl2=>?_
     cases x with
     | app a b l c =>
      have h1:als'=[]:=List.eq_nil_of_length_eq_zero hl1
      have h2:bs'=[]:=by
       cases bs' with
       | nil=>rfl
       | cons y ys=>have:=y.sz_pos;simp[Xp.binds] at hbs';omega
      obtain⟨g1,rfl⟩:∃ g1,gt=[g1]:=List.length_eq_one_iff.1 (by simpa[Xp.args] using hgn)
      subst h1 h2
      refine⟨.app g0 g1 g0.l g0.c,by rw[Xp.av_eq];rfl,?_⟩
      have h3:=Nat.le_trans hgs psum_le
      simp only[Xp.args,List.map_cons,List.map_nil,List.sum_cons,List.sum_nil] at h3
      unfold Xp.sz
      omega
     | row a ops=>exact absurd rfl hkd
     | gen k nm n ps as al bs l c=>cases k<;>simp[Xp.kind,GK.int'] at d4
    ·simp only[go_sem,reduceCtorEq,↓reduceIte,nA,nB,nC,nD,nE,iA,iB,iC,iD,iE,iF,d4,hk,hG.low,List.length_map]
     refine key x.l x.c fun als' hl1 hl2=>?_
     cases x with
     | app a b l c=>simp[Xp.kind] at d4
     | row a ops=>exact absurd rfl hkd
     | gen k nm n ps as al bs l c =>
      refine⟨.gen k nm n ps gs als' bs' l c,by rw[Xp.av_eq];rfl,?_⟩
      have h3:=Nat.le_trans hgs psum_le
      simp only[Xp.args,Xp.alts,Xp.binds] at h3 hl2 hbs'
      unfold Xp.sz
      rw[Xp.szs_sum,Alt.szs_sum,Bnd.szs_sum,Xp.szs_sum,Alt.szs_sum,Bnd.szs_sum]
      omega
theorem gexpr_all:∀ n,GExpL n
 | 0=>fun x s r v fs b e l c h=>absurd h (Nat.not_lt_zero _)
 | n+1=>gexpr_step n (gexpr_all n)
end Go.Am
namespace Go.Am
open Go
theorem decl_w {p:PS} {s:St} {k r kb:Nat} {A0:Nat→Option (List AV)} {n0:Nat} {u f l:AV} {ds:List Data} {fs:List FixT} {es:List Ent} (hb:obj s kb=some (.cells [.ref k 0])) (ho:obj s k=some p.ob) (hr:obj s r=some (.cells [u,f,l])) (hkr:k≠r) (hP:P3 A0 n0 s.arr s.nxt u f l ds fs es) (hz:tsz ds fs es≤300000) (hbad:p.bad=false):W (C F0 X0 13 [.ref kb 0,.ref r 0] s) (TopQ s k r p A0 n0 ds fs es):=by
 have hk:=obj_lt ho
 have hkr':=obj_lt hr
 rw[w_call (f:=13) rfl]
 simp only[go_sem,reduceCtorEq,↓reduceIte,nA,nB,nC,nD,nE,iA,iB,iC,iD,iE,iF,hk,hkr',hb]
 refine W.step (top_w ho hr hkr hP hz hbad) ?_
 rintro _ ⟨p',d',f',l',ds',fs',es',A',N',rfl,h1,h2,h3,h4,h5,h6,h7⟩
 simp only[go_sem,reduceCtorEq,↓reduceIte,nA,nB,nC,nD,nE,iA,iB,iC,iD,iE,iF,hk,hkr']
 rw[back_out hr hP.alow h7]
 exact⟨p',d',f',l',ds',fs',es',A',N',rfl,h1,h2,h3,h4,h5,h6,h7⟩
def Und (s:St) (Z:Nat) (fl:List AV) (p:PS) (t:St):Prop :=
 ∃ (d f l:AV) (ds:List Data) (fs:List FixT) (es:List Ent) (A:Nat→Option (List AV)) (N:Nat),
  t=wa (ex s [.cells [.nsl,.nsl,.nsl],.cells [.i .i64 0,.i .i64 0,.i .i64 0],.cells fl,p.ob,.cells [.ref (cnt s+3) 0],.cells [d,f,l]]) A N∧P3 s.arr s.nxt A N d f l ds fs es∧s.nxt≤N∧tsz ds fs es+20*p.m≤Z∧(p.bad=false→es.length+p.w≤2048)
section
variable {s:St} {Z:Nat} {fl:List AV} {p:PS} {t:St}
theorem Und.cnt (h:Und s Z fl p t):cnt t=Am.cnt s+6:=by obtain⟨d,f,l,ds,fs,es,A,N,rfl,h⟩:=h;rw[wa_cnt,ex_cnt];rfl
theorem Und.ob (h:Und s Z fl p t):obj t (Am.cnt s+3)=some p.ob:=by obtain⟨d,f,l,ds,fs,es,A,N,rfl,h⟩:=h;rw[wa_obj,ex_obj];rfl
theorem Und.set {p':PS} (h:Und s Z fl p t) (h1:p.le p') (h2:p'.m≤p.m):Und s Z fl p' (setOb t (Am.cnt s+3) p'.ob):=by
 obtain⟨d,f,l,ds,fs,es,A,N,rfl,h3,h4,h5,h6⟩:=h
 refine⟨d,f,l,ds,fs,es,A,N,by rw[wa_set,ex_set];rfl,h3,h4,by omega,fun hb=>?_⟩
 have:=PS.le_w h1
 have:=h6 (by have:=h1.2;revert hb;cases hx:p.bad<;>simp_all)
 omega
theorem Und.one (hZ:Z≤300000) (h:Und s Z fl p t) (hb:p.bad=false):W (C F0 X0 13 [.ref (Am.cnt s+4) 0,.ref (Am.cnt s+5) 0] t) fun q=>∃ (p':PS) (t':St),q=(.tup [],t')∧Und s Z fl p' t'∧p.le p'∧p'.m≤p.m - 1:=by
 have ho:=h.ob
 obtain⟨d,f,l,ds,fs,es,A,N,rfl,h3,h4,h5,h6⟩:=h
 refine W.mono (decl_w (kb:=Am.cnt s+4) (k:=Am.cnt s+3) (r:=Am.cnt s+5) (by rw[wa_obj,ex_obj];rfl) ho (by rw[wa_obj,ex_obj];rfl) (by omega) h3 (by omega) hb) ?_
 rintro _ ⟨p',d',f',l',ds',fs',es',A',N',rfl,h1,h2,hm,h7,h8,h9,h10⟩
 exact⟨p',_,rfl,⟨d',f',l',ds',fs',es',A',N',by rw[wa_set,wa_set,wa_wa,ex_set,ex_set];rfl,h1,Nat.le_trans h4 h9,by omega,fun hb'=>by have:=h8 hb';have:=h6 hb;omega⟩,h2,hm⟩
theorem Und.back {s0:St} {n:Int} (hn:s0.nxt=s.nxt) (ha:s0.arr=s.arr) (ho:∀ o,obj s0 (Am.cnt s+5)=some o→o.alow s.nxt=true) (h:Und s Z fl p t):Und s Z fl p (Am.back s0 (.i .i64 n) t):=by
 obtain⟨d,f,l,ds,fs,es,A,N,rfl,h3,h4,h5,h6⟩:=h
 rcases h3.fresh with ⟨rfl,rfl,rfl,rfl,rfl,rfl⟩|hf
 ·rcases back_or s0 (.i .i64 n) (wa (ex s [.cells [.nsl,.nsl,.nsl],.cells [.i .i64 0,.i .i64 0,.i .i64 0],.cells fl,p.ob,.cells [.ref (Am.cnt s+3) 0],.cells [.nsl,.nsl,.nsl]]) A N) with hb|hb
  ·rw[hb]
   exact⟨_,_,_,_,_,_,A,N,rfl,h3,h4,h5,h6⟩
  ·rw[hb]
   exact⟨_,_,_,_,_,_,s.arr,s.nxt,by rw[wa_wa,ha,hn],P3.nil,Nat.le_refl _,h5,h6⟩
 ·rw[back_box (r:=Am.cnt s+5) (o:=.cells [d,f,l]) (by rw[wa_obj,ex_obj];rfl) (by rw[hn];exact hf) (by rw[hn];exact ho)]
  exact⟨_,_,_,_,_,_,A,N,rfl,h3,h4,h5,h6⟩
end
end Go.Am
namespace Go.Am
open Go
theorem TbAt.set {s kt k o} (h:TbAt s kt k):TbAt (setOb s k o) kt k:=h.mono fun r hr=>obj_set' (by omega)
theorem Loc.back {A0 n0 A' N' w L s k o B N} (h0:Loc A0 n0 s.arr s.nxt .one B N) (h:Loc A0 n0 A' N' .one w L):∃ A'' N'',back s w (wa (setOb s k o) A' N')=wa (setOb s k o) A'' N''∧Loc A0 n0 A'' N'' .one w L:=by
 unfold Am.back
 split
 ·rename_i hc
  obtain⟨c1,c2,c3⟩:=hc
  obtain⟨d,h1,h2,h3,h4,h5⟩:=h
  obtain⟨d0,-,-,g3,g4,-⟩:=h0
  exact⟨s.arr,s.nxt,rfl,d,h1.mono fun a ha=>⟨(c1 a (h1.alow' c2 ha)).symm,h1.alow' c2 ha⟩,h2,g3,g4,h5⟩
 ·exact⟨A',N',rfl,h⟩
abbrev PT (p:Pat):Prop:=∀ (s:St) (k kt:Nat) (v:AV) (e l c:Int) (b:Bool) (A0:Nat→Option (List AV)) (n0:Nat) (w:AV) (L:List Str),obj s k=some (ckc kt v e l c b)→TbAt s kt k→Loc A0 n0 s.arr s.nxt .one w (strs L)→L.length+p.sz≤900000 →
 W (C F0 X0 113 [.ref k 0,p.av,w] s) fun q=>∃ w' L' e' l' c' b' A' N',q=(w',wa (setOb s k (ckc kt v e' l' c' b')) A' N')∧Loc A0 n0 A' N' .one w' (strs L')∧L'.length≤L.length+p.sz
theorem cpat_step (n:Nat) (ih:∀ p:Pat,p.sz<n→PT p) (p:Pat) (hn:p.sz<n+1):PT p:=by
 intro s k kt v e l c b A0 n0 w L ho htb hL hsz
 have hpz:=Pat.sz_eq p
 have hlen:=Pat.szs_len p.args
 have hk:=obj_lt ho
 have ho':=ho
 unfold ckc at ho'
 have hrd:=hL.rd (by decide)
 have hone:w.cells=[w]:=hrd.one
 have hsid:setOb s k (ckc kt v e l c b)=s:=set_id ho
 have push:∃ w' A' N',(∀ u,agrow (newAr (wa u s.arr s.nxt) [.s p.name]) .one 1 [.s p.name] w=some (w',wa u A' N'))∧Loc A0 n0 A' N' .one w' (strs (L++[p.name])):=by
  obtain⟨w',A',N',k1,k2⟩:=hL.push (y:=.s p.name) (cy:=[.s p.name]) rfl (ele_one rfl) (by rw[strs_len];unfold most;omega)
  exact⟨w',A',N',k1,strs_push▸k2⟩
 rw[w_call (f:=113) rfl]
 simp only[go_sem,reduceCtorEq,↓reduceIte,nA,nB,nC,nD,nE,iA,iB,iC,iD,iE,iF,hone]
 refine W.ifc (fun c1=>?_) (fun c1=>?_)
 ·have hh:=yb_eq (has_tot p.name (ex s [.cells p.av.cells]) (v:=w) (xs:=L) hrd (by omega))
  rw[Pat.cells_eq] at hh
  obtain⟨w',A',N',k1,k2⟩:=push
  have k1':∀ o l,agrow (newAr (ex (setOb s k o) l) [.s p.name]) .one 1 [.s p.name] w=some (w',wa (ex (setOb s k o) l) A' N'):=fun o l=>k1 (ex (setOb s k o) l)
  have k1s:∀ l,agrow (newAr (ex s l) [.s p.name]) .one 1 [.s p.name] w=some (w',wa (ex s l) A' N'):=fun l=>k1 (ex s l)
  simp only[go_sem,reduceCtorEq,↓reduceIte,nA,nB,nC,nD,nE,iA,iB,iC,iD,iE,iF,c1,hh]
  refine W.ifc (fun c2=>?_) (fun c2=>?_)
  ·obtain⟨e2,l2,c2',b2,hf⟩:=fails_tot (ex s [.cells p.av.cells]) 80 p.l p.c (by rw[ex_old hk];exact ho)
   rw[ex_sets hk,Pat.cells_eq] at hf
   simp only[go_sem,reduceCtorEq,↓reduceIte,nA,nB,nC,nD,nE,iA,iB,iC,iD,iE,iF,c2,hf,k1',k2.low]
   obtain⟨A2,N2,q1,q2⟩:=Loc.back (k:=k) (o:=ckc kt v e2 l2 c2' b2) hL k2
   exact⟨w',L++[p.name],e2,l2,c2',b2,A2,N2,by rw[q1],q2,by simp;omega⟩
  ·simp only[go_sem,reduceCtorEq,↓reduceIte,nA,nB,nC,nD,nE,iA,iB,iC,iD,iE,iF,c2,k1s,k2.low]
   obtain⟨A2,N2,q1,q2⟩:=Loc.back (k:=k) (o:=ckc kt v e l c b) hL k2
   rw[hsid] at q1
   exact⟨w',L++[p.name],e,l,c,b,A2,N2,by rw[q1,hsid],q2,by simp;omega⟩
 ·simp only[go_sem,reduceCtorEq,↓reduceIte,nA,nB,nC,nD,nE,iA,iB,iC,iD,iE,iF,c1]
  refine W.ifc (fun c2=>?_) (fun c2=>?_)
  ·obtain⟨con,t,hcon⟩:=Con_tot p.name (ex s [.cells p.av.cells,.cells [.s [],.s [],.i .i64 0,.i .i64 0,.nsl]]) (htb.ex (Nat.le_of_lt hk)) (by rw[ex_cnt];omega)
   rw[Pat.cells_eq] at hcon
   have main:∀ (e l c:Int) (b:Bool) bs,W (E F0 X0 bs l113_0 [(0,.ref k 0),(2,w),(60,lst (.st 6) (p.args.map Pat.av)),(61,.i .i64 (p.args.length:Int)),(62,.i .i64 0)] (ex (setOb s k (ckc kt v e l c b)) [.cells p.av.cells,.cells con.av.cells])) fun q=>∃ w' L' e' l' c' b' A' N',q=(.exit 2,[(0,.ref k 0),(2,w'),(60,lst (.st 6) (p.args.map Pat.av)),(61,.i .i64 (p.args.length:Int)),(62,.i .i64 (p.args.length:Int)),(63,.b false)],wa (ex (setOb s k (ckc kt v e' l' c' b')) [.cells p.av.cells,.cells con.av.cells]) A' N')∧Loc A0 n0 A' N' .one w' (strs L')∧L'.length≤L.length+p.sz:=by
    intro e l c b bs
    refine W.range (n:=p.args.length) (L:=l113_0) rfl (fun i E u=>∃ w' L' e' l' c' b' A' N',E=[(0,.ref k 0),(2,w'),(60,lst (.st 6) (p.args.map Pat.av)),(61,.i .i64 (p.args.length:Int)),(62,.i .i64 (i:Int))]∧u=wa (ex (setOb s k (ckc kt v e' l' c' b')) [.cells p.av.cells,.cells con.av.cells]) A' N'∧Loc A0 n0 A' N' .one w' (strs L')∧L'.length≤L.length+psum Pat.sz p.args i) ?_ ?_ 0 _ _ (Nat.zero_le _) ⟨w,L,e,l,c,b,s.arr,s.nxt,rfl,rfl,hL,Nat.le_refl _⟩
    ·rintro i E u ⟨w',L',e',l',c',b',A',N',rfl,rfl,hL',hl'⟩ hi
     have h0:=List.getElem?_eq_getElem hi
     generalize p.args[i]=a at h0
     have g1:∀ k,aiad (.st 6) (lst (.st 6) (p.args.map Pat.av)) (.i k (i:Int))=some (.ep a.av.cells 0):=fun k=>lst_iad rfl (by rw[List.getElem?_map,h0];rfl)
     have g3:decide ((i:Int)<(p.args.length:Int))=true:=by simp;omega
     have g5:=@wrap_one i (by omega)
     have g6:=psum_lt (f:=Pat.sz) h0
     have g7:=psum_succ (f:=Pat.sz) h0
     have hk2:k<cnt s+2:=by omega
     simp only[go_sem,reduceCtorEq,↓reduceIte,nA,nB,nC,nD,nE,iA,iB,iC,iD,iE,iF,g1,g3,hk,hL'.low,Nat.le_refl]
     have hx:=ih a (by omega) (wa (ex (setOb s k (ckc kt v e' l' c' b')) [.cells p.av.cells,.cells con.av.cells,.cells a.av.cells]) A' N') k kt v e' l' c' b' A0 n0 w' L' (by rw[wa_obj,ex_old (by rw[cnt_set];exact hk)];exact obj_set hk) (by
      refine (htb.set (o:=ckc kt v e' l' c' b')).mono fun r hr=>?_
      rw[wa_obj,ex_old (by rw[cnt_set];omega)]) hL' (by omega)
     rw[Pat.cells_eq,Pat.cells_eq,Con.cells_eq] at hx
     refine W.step hx ?_
     rintro q ⟨w2,L2,e2,l2,c2,b2,A2,N2,rfl,hL2,hl2⟩
     simp only[go_sem,reduceCtorEq,↓reduceIte,nA,nB,nC,nD,nE,iA,iB,iC,iD,iE,iF,hk,g5,hL2.low]
     exact⟨w2,L2,e2,l2,c2,b2,A2,N2,rfl,rfl,hL2,by omega⟩
    ·rintro E u ⟨w',L',e',l',c',b',A',N',rfl,rfl,hL',hl'⟩
     have g3:decide ((p.args.length:Int)<(p.args.length:Int))=false:=by simp
     have g6:=@psum_le _ Pat.sz p.args p.args.length
     simp only[go_sem,reduceCtorEq,↓reduceIte,nA,nB,nC,nD,nE,iA,iB,iC,iD,iE,iF,g3,hk,hL'.low]
     exact⟨w',L',e',l',c',b',A',N',rfl,hL',by omega⟩
   have mains:=main e l c b
   rw[hsid] at mains
   rw[Pat.cells_eq,Con.cells_eq] at main mains
   have hob:obj (ex s [.cells p.av.cells,.cells con.av.cells]) k=some (ckc kt v e l c b):=by rw[ex_old hk];exact ho
   rw[Pat.cells_eq,Con.cells_eq] at hob
   simp only[go_sem,reduceCtorEq,↓reduceIte,nA,nB,nC,nD,nE,iA,iB,iC,iD,iE,iF,c2,hk,ho',hcon]
   refine W.ifc (fun c3=>?_) (fun c3=>?_)
   ·simp only[go_sem,reduceCtorEq,↓reduceIte,nA,nB,nC,nD,nE,iA,iB,iC,iD,iE,iF,c3]
    refine W.ifc (fun c4=>?_) (fun c4=>?_)
    ·skip
     obtain⟨e2,l2,c2',b2,hf⟩:=fails_tot (ex s [.cells p.av.cells,.cells con.av.cells]) 82 p.l p.c (by rw[ex_old hk];exact ho)
     rw[ex_sets hk,Pat.cells_eq,Con.cells_eq] at hf
     simp only[go_sem,reduceCtorEq,↓reduceIte,nA,nB,nC,nD,nE,iA,iB,iC,iD,iE,iF,c4,hf,hk]
     refine W.step (main e2 l2 c2' b2 _) ?_
     rintro q ⟨w',L',e',l',c',b',A',N',rfl,hL',hl'⟩
     simp only[go_sem,reduceCtorEq,↓reduceIte,nA,nB,nC,nD,nE,iA,iB,iC,iD,iE,iF,hk,hL'.low]
     obtain⟨A2,N2,q1,q2⟩:=Loc.back (k:=k) (o:=ckc kt v e' l' c' b') hL hL'
     exact⟨w',L',e',l',c',b',A2,N2,by rw[q1],q2,hl'⟩
    ·simp only[go_sem,reduceCtorEq,↓reduceIte,nA,nB,nC,nD,nE,iA,iB,iC,iD,iE,iF,c4]
     refine W.step (mains _) ?_
     rintro q ⟨w',L',e',l',c',b',A',N',rfl,hL',hl'⟩
     simp only[go_sem,reduceCtorEq,↓reduceIte,nA,nB,nC,nD,nE,iA,iB,iC,iD,iE,iF,hk,hL'.low]
     obtain⟨A2,N2,q1,q2⟩:=Loc.back (k:=k) (o:=ckc kt v e' l' c' b') hL hL'
     exact⟨w',L',e',l',c',b',A2,N2,by rw[q1],q2,hl'⟩
   ·skip
    obtain⟨e2,l2,c2',b2,hf⟩:=fails_tot (ex s [.cells p.av.cells,.cells con.av.cells]) 81 p.l p.c (by rw[ex_old hk];exact ho)
    rw[ex_sets hk,Pat.cells_eq,Con.cells_eq] at hf
    simp only[go_sem,reduceCtorEq,↓reduceIte,nA,nB,nC,nD,nE,iA,iB,iC,iD,iE,iF,c3,hf,hk]
    refine W.step (main e2 l2 c2' b2 _) ?_
    rintro q ⟨w',L',e',l',c',b',A',N',rfl,hL',hl'⟩
    simp only[go_sem,reduceCtorEq,↓reduceIte,nA,nB,nC,nD,nE,iA,iB,iC,iD,iE,iF,hk,hL'.low]
    obtain⟨A2,N2,q1,q2⟩:=Loc.back (k:=k) (o:=ckc kt v e' l' c' b') hL hL'
    exact⟨w',L',e',l',c',b',A2,N2,by rw[q1],q2,hl'⟩
  ·simp only[go_sem,reduceCtorEq,↓reduceIte,nA,nB,nC,nD,nE,iA,iB,iC,iD,iE,iF,c2,hL.low]
   exact⟨w,L,e,l,c,b,s.arr,s.nxt,by rw[hsid];rfl,hL,by omega⟩
theorem cpat_tot (p:Pat):PT p:=by
 have h:∀ n,∀ p:Pat,p.sz<n→PT p:=by
  intro n
  induction n with
  | zero=>intro e h;omega
  | succ n ih=>exact fun e he=>cpat_step n ih e he
 exact h _ p (Nat.lt_succ_self _)
end Go.Am
namespace Go.Am
open Go
abbrev XC (e:Xp):Prop:=∀ s0 D kt k s B,Ck s0 D kt k s B→B.length+e.sz≤900000→CT s0 D kt k B (C F0 X0 135 [.ref k 0,e.av] s)
theorem Ck.kl {s0 D kt k s B} (h:Ck s0 D kt k s B):k<Am.cnt s:=by rw[h.cnt];exact h.hk
theorem crhs_tot {s0 D kt k s B} (l:List Rhs) (h:Ck s0 D kt k s B)
  (H:∀ r∈l,∀ x∈r.parts,XC x) (hB:B.length+(l.map Rhs.sz).sum≤900000):CT s0 D kt k B (C F0 X0 115 [.ref k 0,lst (.st 10) (l.map Rhs.av)] s):=by
 have hF:=h
 have l1:=h.kl
 have hlen:=Rhs.szs_len l
 rw[w_call (f:=115) rfl]
 simp only[go_sem,reduceCtorEq,↓reduceIte,nA,nB,nC,nD,nE,iA,iB,iC,iD,iE,iF]
 refine W.step (W.range (n:=l.length) (Q:=fun q=>∃ E t,q=(.exit 0,E,t)∧Ck s0 D kt k t B) (L:=l115_1) rfl (fun i E t=>E=[(0,.ref k 0),(8,lst (.st 10) (l.map Rhs.av)),(9,.i .i64 (l.length:Int)),(10,.i .i64 (i:Int))]∧Ck s0 D kt k t B) ?_ ?_ 0 _ _ (Nat.zero_le _) ⟨rfl,hF⟩) ?_
 ·rintro i E t ⟨rfl,ht⟩ hi
  have h0:=List.getElem?_eq_getElem hi
  have hm:=List.getElem_mem hi
  generalize l[i]=r at h0 hm
  have g1:∀ k,aiad (.st 10) (lst (.st 10) (l.map Rhs.av)) (.i k (i:Int))=some (.ep r.av.cells 0):=fun k=>lst_iad rfl (by rw[List.getElem?_map,h0];rfl)
  have h3:decide ((i:Int)<(l.length:Int))=true:=by simp;omega
  have h5:=@wrap_one i (by omega)
  have h6:=psum_lt (f:=Rhs.sz) h0
  have hsz:=Rhs.sz_eq r
  have hgl:=Xp.szs_len r.guard
  have l2:=ht.kl
  simp only[go_sem,reduceCtorEq,↓reduceIte,nA,nB,nC,nD,nE,iA,iB,iC,iD,iE,iF,g1,h3,h5,l2,Nat.le_refl]
  refine W.step (W.range (n:=r.guard.length) (Q:=fun q=>∃ t',q=(.exit 2,[(0,.ref k 0),(5,.ref (cnt t) 0),(8,lst (.st 10) (l.map Rhs.av)),(9,.i .i64 (l.length:Int)),(10,.i .i64 (i:Int)),(15,lst (.st 9) (r.guard.map Xp.av)),(16,.i .i64 (r.guard.length:Int)),(17,.i .i64 (r.guard.length:Int)),(18,.b false)],ex t' [.cells r.av.cells])∧Ck s0 D kt k t' B) (L:=l115_0) rfl (fun j E u=>∃ t',E=[(0,.ref k 0),(5,.ref (cnt t) 0),(8,lst (.st 10) (l.map Rhs.av)),(9,.i .i64 (l.length:Int)),(10,.i .i64 (i:Int)),(15,lst (.st 9) (r.guard.map Xp.av)),(16,.i .i64 (r.guard.length:Int)),(17,.i .i64 (j:Int))]∧u=ex t' [.cells r.av.cells]∧Ck s0 D kt k t' B) ?_ ?_ 0 _ _ (Nat.zero_le _) ⟨t,rfl,by rw[Rhs.cells_eq],ht⟩) ?_
  ·rintro j E u ⟨t',rfl,rfl,ht'⟩ hj
   have h0':=List.getElem?_eq_getElem hj
   have hm':=List.getElem_mem hj
   generalize r.guard[j]=x at h0' hm'
   have g1':∀ k,aiad (.st 9) (lst (.st 9) (r.guard.map Xp.av)) (.i k (j:Int))=some (.ep x.av.cells 0):=fun k=>lst_iad rfl (by rw[List.getElem?_map,h0'];rfl)
   have h3':decide ((j:Int)<(r.guard.length:Int))=true:=by simp;omega
   have h5':=@wrap_one j (by omega)
   have h6':=psum_lt (f:=Xp.sz) h0'
   have c':cnt t'=cnt t:=ht'.cnt.trans ht.cnt.symm
   simp only[go_sem,reduceCtorEq,↓reduceIte,nA,nB,nC,nD,nE,iA,iB,iC,iD,iE,iF,g1',h3',h5',l2,c',Nat.le_refl]
   have hx:=H r hm x (by simp[Rhs.parts,hm']) _ _ _ _ _ _ (ht'.ex [.cells r.av.cells,.cells x.av.cells]) (by omega)
   rw[Xp.cells_eq,Rhs.cells_eq] at hx
   refine W.step hx ?_
   rintro⟨v,s2⟩ ⟨rfl,k1⟩
   obtain⟨t2,rfl,k3⟩:=k1.unex ht.hk
   have c2:cnt t2=cnt t:=k3.cnt.trans ht.cnt.symm
   simp only[go_sem,reduceCtorEq,↓reduceIte,nA,nB,nC,nD,nE,iA,iB,iC,iD,iE,iF,h5',c2,l2]
   exact⟨t2,rfl,k3⟩
  ·rintro E u ⟨t',rfl,rfl,ht'⟩
   have h3':decide ((r.guard.length:Int)<(r.guard.length:Int))=false:=by simp
   have c':cnt t'=cnt t:=ht'.cnt.trans ht.cnt.symm
   simp only[go_sem,reduceCtorEq,↓reduceIte,nA,nB,nC,nD,nE,iA,iB,iC,iD,iE,iF,h3',l2,c']
   exact⟨t',rfl,ht'⟩
  ·rintro q ⟨t',rfl,ht'⟩
   have c':cnt t'=cnt t:=ht'.cnt.trans ht.cnt.symm
   simp only[go_sem,reduceCtorEq,↓reduceIte,nA,nB,nC,nD,nE,iA,iB,iC,iD,iE,iF,l2,c']
   have hx:=H r hm r.body (by simp[Rhs.parts]) _ _ _ _ _ _ (ht'.ex [.cells r.av.cells]) (by omega)
   rw[Rhs.cells_eq] at hx
   refine W.step hx ?_
   rintro⟨v,s2⟩ ⟨rfl,k1⟩
   obtain⟨t2,rfl,k3⟩:=k1.unex ht.hk
   have c2:cnt t2=cnt t:=k3.cnt.trans ht.cnt.symm
   simp only[go_sem,reduceCtorEq,↓reduceIte,nA,nB,nC,nD,nE,iA,iB,iC,iD,iE,iF,h5,c2,l2]
   exact k3
 ·rintro E t ⟨rfl,ht⟩
  have h3:decide ((l.length:Int)<(l.length:Int))=false:=by simp
  have l2:=ht.kl
  simp only[go_sem,reduceCtorEq,↓reduceIte,nA,nB,nC,nD,nE,iA,iB,iC,iD,iE,iF,h3,l2]
  exact⟨_,_,rfl,ht⟩
 ·rintro q ⟨E,t,rfl,ht⟩
  have c2:cnt t=cnt s:=ht.cnt.trans hF.cnt.symm
  simp only[go_sem,reduceCtorEq,↓reduceIte,nA,nB,nC,nD,nE,iA,iB,iC,iD,iE,iF,c2]
  exact hF.back ht
theorem cpats1_tot {s0 D kt k s B} (l:List Rhs) (rl rf:Nat) (h:Ck s0 D kt k s B) (hrl:obj s0 rl=some (.cells [lst (.st 10) (l.map Rhs.av)])) (hrf:obj s0 rf=some (.cells [.ref k 0])) (h1:rl≠k) (h2:rf≠k)
  (H:∀ r∈l,∀ x∈r.parts,XC x) (hB:B.length+(l.map Rhs.sz).sum≤900000):CT s0 D kt k B (C F0 X0 114 [.ref rf 0,.ref rl 0] s):=by
 have hF:=h
 have q1:=(h.oth rl h1).trans hrl
 have q2:=(h.oth rf h2).trans hrf
 rw[w_call (f:=114) rfl]
 simp only[go_sem,reduceCtorEq,↓reduceIte,nA,nB,nC,nD,nE,iA,iB,iC,iD,iE,iF,q1,q2]
 refine W.step (crhs_tot l h H hB) ?_
 rintro⟨v,t⟩ ⟨rfl,ht⟩
 have c2:cnt t=cnt s:=ht.cnt.trans hF.cnt.symm
 simp only[go_sem,reduceCtorEq,↓reduceIte,nA,nB,nC,nD,nE,iA,iB,iC,iD,iE,iF,c2]
 exact hF.back ht
theorem cpats_tot {s0 D kt k s B} {v:AV} (ps:List Pat) (l:List Rhs) (h:Ck s0 D kt k s B) (hr:RdD s0 D (.st 6) v (ps.map Pat.av))
  (H:∀ r∈l,∀ x∈r.parts,XC x) (hB:B.length+(ps.map Pat.sz).sum+(l.map Rhs.sz).sum≤900000):CT s0 D kt k B (C F0 X0 82 [.ref k 0,v,lst (.st 10) (l.map Rhs.av)] s):=by
 have hF:=h
 have hc:=h.cnt
 have hps:=Pat.szs_len ps
 have hv:=hr s.arr (fun a ha hD=>h.fr a ha hD)
 have hvl:=hv.len
 rw[List.length_map] at hvl
 have hvlow:=hv.low
 have hkl:=h.kl
 have hkl0:=h.hk
 obtain⟨w0,e0,l00,c0,b0,d0,t1,t2,t3⟩:=h.tab
 rw[w_call (f:=82) rfl]
 simp only[go_sem,reduceCtorEq,↓reduceIte,nA,nB,nC,nD,nE,iA,iB,iC,iD,iE,iF,hvl,hv.one]
 have hsid:setOb s k (ckc kt w0 e0 l00 c0 b0)=s:=set_id t1
 refine W.step (W.range (n:=ps.length) (Q:=fun q=>∃ L w A N e l' c b,q=(.exit 0,[(3,.ref (cnt s) 0),(5,.ref (cnt s+1) 0),(6,w),(9,v),(10,.i .i64 (ps.length:Int)),(11,.i .i64 (ps.length:Int)),(12,.b false)],wa (ex (setOb s k (ckc kt w0 e l' c b)) [.cells [.ref k 0],.cells [lst (.st 10) (l.map Rhs.av)]]) A N)∧Loc s.arr s.nxt A N .one w (strs L)∧L.length≤(ps.map Pat.sz).sum) (L:=l82_0) rfl (fun i E t=>∃ L w A N e l' c b,E=[(3,.ref (cnt s) 0),(5,.ref (cnt s+1) 0),(6,w),(9,v),(10,.i .i64 (ps.length:Int)),(11,.i .i64 (i:Int))]∧t=wa (ex (setOb s k (ckc kt w0 e l' c b)) [.cells [.ref k 0],.cells [lst (.st 10) (l.map Rhs.av)]]) A N∧Loc s.arr s.nxt A N .one w (strs L)∧L.length≤psum Pat.sz ps i) ?_ ?_ 0 _ _ (Nat.zero_le _) ⟨[],.nsl,s.arr,s.nxt,e0,l00,c0,b0,rfl,by rw[hsid];rfl,Loc.nil,Nat.le_refl _⟩) ?_
 ·rintro i E t ⟨L,w,A,N,e,l',c,b,rfl,rfl,hL,hl⟩ hi
  have h0:=List.getElem?_eq_getElem hi
  generalize ps[i]=x at h0
  obtain⟨p,g1,g2,-⟩:=(hr A (fun a ha hD=>(hL.old a (Nat.lt_of_lt_of_le ha h.nx)).trans (h.fr a ha hD))).ld i x.av (by rw[List.getElem?_map,h0];rfl)
  have g2':=fun S=>g2 (wa S A N) rfl
  have h3:decide ((i:Int)<(ps.length:Int))=true:=by simp;omega
  have h5:=@wrap_one i (by omega)
  have h6:=psum_lt (f:=Pat.sz) h0
  have h7:=psum_succ (f:=Pat.sz) h0
  simp only[go_sem,reduceCtorEq,↓reduceIte,nA,nB,nC,nD,nE,iA,iB,iC,iD,iE,iF,g1,g2',h3,hL.low,hvlow,Nat.le_refl]
  have hx:=cpat_tot x (wa (ex (setOb s k (ckc kt w0 e l' c b)) [.cells [.ref k 0],.cells [lst (.st 10) (l.map Rhs.av)],.cells x.av.cells]) A N) k kt w0 e l' c b s.arr s.nxt w L (by rw[wa_obj,ex_old (by rw[cnt_set];exact hkl)];exact obj_set hkl) (by
   refine (h.tbl.set (o:=ckc kt w0 e l' c b)).mono fun r hr=>?_
   rw[wa_obj,ex_old (by rw[cnt_set];omega)]) hL (by omega)
  rw[Pat.cells_eq] at hx
  refine W.step hx ?_
  rintro q ⟨w2,L2,e2,l2,c2,b2,A2,N2,rfl,hL2,hl2⟩
  simp only[go_sem,reduceCtorEq,↓reduceIte,nA,nB,nC,nD,nE,iA,iB,iC,iD,iE,iF,hkl,h5,hL2.low,hvlow]
  exact⟨L2,w2,A2,N2,e2,l2,c2,b2,rfl,rfl,hL2,by omega⟩
 ·rintro E t ⟨L,w,A,N,e,l',c,b,rfl,rfl,hL,hl⟩
  have h3:decide ((ps.length:Int)<(ps.length:Int))=false:=by simp
  have h6:=@psum_le _ Pat.sz ps ps.length
  simp only[go_sem,reduceCtorEq,↓reduceIte,nA,nB,nC,nD,nE,iA,iB,iC,iD,iE,iF,h3,hL.low,hvlow]
  exact⟨L,w,A,N,e,l',c,b,rfl,hL,by omega⟩
 ·rintro q ⟨L,w,A,N,e,l',c,b,rfl,hL,hl⟩
  simp only[go_sem,reduceCtorEq,↓reduceIte,nA,nB,nC,nD,nE,iA,iB,iC,iD,iE,iF,hL.low]
  have hF1:Ck s0 D kt k (wa (setOb s k (ckc kt w0 e l' c b)) A N) B:=by
   obtain⟨d,hg,hd,ho,hn,-⟩:=hL
   exact (h.set t1).wa ho hn
  have hF2:Ck (ex s0 [.cells [.ref k 0],.cells [lst (.st 10) (l.map Rhs.av)]]) D kt k (wa (ex (setOb s k (ckc kt w0 e l' c b)) [.cells [.ref k 0],.cells [lst (.st 10) (l.map Rhs.av)]]) A N) B:=by
   rw[←ex_wa]
   exact hF1.ex _
  refine W.step (cwithin_tot hF2 (hL.rd (by decide)) (by omega) (fun s' h'=>cpats1_tot l (cnt s+1) (cnt s) h' (by rw[hc,ex_obj];rfl) (by rw[hc,ex_obj0];rfl) (by omega) (by omega) H (by rw[List.length_append];omega))) ?_
  rintro⟨u,s2⟩ ⟨rfl,j1⟩
  obtain⟨t2,rfl,j3⟩:=j1.unex h.hk
  have c2:cnt t2=cnt s:=j3.cnt.trans hc.symm
  simp only[go_sem,reduceCtorEq,↓reduceIte,nA,nB,nC,nD,nE,iA,iB,iC,iD,iE,iF,c2]
  exact hF.back j3
end Go.Am
namespace Go.Am
open Go
theorem Ck.fails {s0 D kt k s B} (h:Ck s0 D kt k s B) (x l c:Int):∃ s2,C F0 X0 21 [.ref k 0,.i .i64 x,.agg [.i .i64 l,.i .i64 c]] s=some (.tup [],s2)∧Ck s0 D kt k s2 B∧s2.arr=s.arr∧s2.nxt=s.nxt:=by
 obtain⟨w0,e0,l00,c0,b0,d0,t1,t2,t3⟩:=h.tab
 obtain⟨e2,l2,c2,b2,hf⟩:=fails_tot s x l c t1
 exact⟨_,hf,h.set t1,rfl,rfl⟩
theorem bind_tot {s0 D kt k s B} (b:Bnd) (h:Ck s0 D kt k s B)
  (H:∀ c∈b.cls,∀ r∈c.rhs,∀ x∈r.parts,XC x) (hB:B.length+b.sz≤900000):CT s0 D kt k B (C F0 X0 47 [.ref k 0,b.av] s):=by
 have hF:=h
 have hc:=h.cnt
 have hkl:=h.kl
 have hsz:=Bnd.sz_eq b
 have hcl:=Clause.szs_len b.cls
 have i0:∀ k,aiad (.st 2) (lst (.st 2) (b.cls.map Clause.av)) (.i k 0)=some (.ep b.cl.av.cells 0):=fun k=>iad_l0
 have rest:∀ (t:St) (m:Int),Ck s0 D kt k t B→W ((E F0 X0 (cnt s) l47_0 [(0,.ref k 0),(3,.ref (cnt s) 0),(4,.i .i64 m),(28,lst (.st 2) (b.cls.map Clause.av)),(29,.i .i64 (b.cls.length:Int)),(30,.i .i64 0)] (ex t [.cells b.av.cells]))) fun q=>∃ t2,q=(.exit 0,[(0,.ref k 0),(3,.ref (cnt s) 0),(4,.i .i64 m),(28,lst (.st 2) (b.cls.map Clause.av)),(29,.i .i64 (b.cls.length:Int)),(30,.i .i64 (b.cls.length:Int)),(31,.b false)],ex t2 [.cells b.av.cells])∧Ck s0 D kt k t2 B:=by
  intro t m ht
  refine W.range (n:=b.cls.length) (L:=l47_0) rfl (fun i E u=>∃ t2,E=[(0,.ref k 0),(3,.ref (cnt s) 0),(4,.i .i64 m),(28,lst (.st 2) (b.cls.map Clause.av)),(29,.i .i64 (b.cls.length:Int)),(30,.i .i64 (i:Int))]∧u=ex t2 [.cells b.av.cells]∧Ck s0 D kt k t2 B) ?_ ?_ 0 _ _ (Nat.zero_le _) ⟨t,rfl,rfl,ht⟩
  ·rintro i E u ⟨t2,rfl,rfl,ht2⟩ hi
   have h0:=List.getElem?_eq_getElem hi
   generalize b.cls[i]=c at h0
   have g1:∀ k,aiad (.st 2) (lst (.st 2) (b.cls.map Clause.av)) (.i k (i:Int))=some (.ep c.av.cells 0):=fun k=>lst_iad rfl (by rw[List.getElem?_map,h0];rfl)
   have h3:decide ((i:Int)<(b.cls.length:Int))=true:=by simp;omega
   have h5:=@wrap_one i (by omega)
   have c2:cnt t2=cnt s:=ht2.cnt.trans hc.symm
   simp only[go_sem,reduceCtorEq,↓reduceIte,nA,nB,nC,nD,nE,iA,iB,iC,iD,iE,iF,g1,h3,c2,hkl,Nat.le_refl]
   refine W.ifc (fun d=>?_) (fun d=>?_)
   ·obtain⟨s2,f1,f2,-,-⟩:=(ht2.ex [.cells b.av.cells,.cells c.av.cells]).fails 82 b.l b.c
    obtain⟨t3,rfl,f3⟩:=f2.unex h.hk
    have c3:cnt t3=cnt s:=f3.cnt.trans hc.symm
    rw[Bnd.cells_eq,Clause.cells_eq] at f1
    simp only[go_sem,reduceCtorEq,↓reduceIte,nA,nB,nC,nD,nE,iA,iB,iC,iD,iE,iF,d,f1,c2,c3,hkl,h5,Nat.le_refl]
    exact⟨t3,rfl,f3⟩
   ·simp only[go_sem,reduceCtorEq,↓reduceIte,nA,nB,nC,nD,nE,iA,iB,iC,iD,iE,iF,d,c2,hkl,h5,Nat.le_refl]
    exact⟨t2,rfl,ht2⟩
  ·rintro E u ⟨t2,rfl,rfl,ht2⟩
   have h3:decide ((b.cls.length:Int)<(b.cls.length:Int))=false:=by simp
   have c2:cnt t2=cnt s:=ht2.cnt.trans hc.symm
   simp only[go_sem,reduceCtorEq,↓reduceIte,nA,nB,nC,nD,nE,iA,iB,iC,iD,iE,iF,h3,c2,hkl]
   exact⟨t2,rfl,ht2⟩
 have last:∀ (t:St),Ck s0 D kt k t B→W ((E F0 X0 (cnt s) l47_1 [(0,.ref k 0),(45,lst (.st 2) (b.cls.map Clause.av)),(46,.i .i64 (b.cls.length:Int)),(47,.i .i64 0)] (ex t [.cells b.av.cells]))) fun q=>∃ E t2,q=(.exit 2,E,ex t2 [.cells b.av.cells])∧Ck s0 D kt k t2 B:=by
  intro t ht
  refine W.range (n:=b.cls.length) (L:=l47_1) rfl (fun i E u=>∃ t2,E=[(0,.ref k 0),(45,lst (.st 2) (b.cls.map Clause.av)),(46,.i .i64 (b.cls.length:Int)),(47,.i .i64 (i:Int))]∧u=ex t2 [.cells b.av.cells]∧Ck s0 D kt k t2 B) ?_ ?_ 0 _ _ (Nat.zero_le _) ⟨t,rfl,rfl,ht⟩
  ·rintro i E u ⟨t2,rfl,rfl,ht2⟩ hi
   have h0:=List.getElem?_eq_getElem hi
   have hm:=List.getElem_mem hi
   generalize b.cls[i]=c at h0 hm
   have g1:∀ k,aiad (.st 2) (lst (.st 2) (b.cls.map Clause.av)) (.i k (i:Int))=some (.ep c.av.cells 0):=fun k=>lst_iad rfl (by rw[List.getElem?_map,h0];rfl)
   have h3:decide ((i:Int)<(b.cls.length:Int))=true:=by simp;omega
   have h5:=@wrap_one i (by omega)
   have h6:=psum_lt (f:=Clause.sz) h0
   have hcz:=Clause.sz_eq c
   have c2:cnt t2=cnt s:=ht2.cnt.trans hc.symm
   simp only[go_sem,reduceCtorEq,↓reduceIte,nA,nB,nC,nD,nE,iA,iB,iC,iD,iE,iF,g1,h3,c2,hkl,Nat.le_refl]
   have hx:=cpats_tot c.pats c.rhs (ht2.ex [.cells b.av.cells,.cells c.av.cells]) (RdD.lst (mem_map_of fun x _=>x.ele)) (H c hm) (by omega)
   rw[Bnd.cells_eq,Clause.cells_eq] at hx
   refine W.step hx ?_
   rintro⟨v,s2⟩ ⟨rfl,k1⟩
   obtain⟨t3,rfl,k3⟩:=k1.unex h.hk
   have c3:cnt t3=cnt s:=k3.cnt.trans hc.symm
   simp only[go_sem,reduceCtorEq,↓reduceIte,nA,nB,nC,nD,nE,iA,iB,iC,iD,iE,iF,h5,c3,hkl]
   exact⟨t3,rfl,k3⟩
  ·rintro E u ⟨t2,rfl,rfl,ht2⟩
   have h3:decide ((b.cls.length:Int)<(b.cls.length:Int))=false:=by simp
   have c2:cnt t2=cnt s:=ht2.cnt.trans hc.symm
   simp only[go_sem,reduceCtorEq,↓reduceIte,nA,nB,nC,nD,nE,iA,iB,iC,iD,iE,iF,h3,c2,hkl]
   exact⟨_,t2,rfl,ht2⟩
 have join:∀ (t:St) (m:Int),Ck s0 D kt k t B→cnt t=cnt s→W (((E F0 X0 (cnt s) l47_0 [(0,.ref k 0),(3,.ref (cnt s) 0),(4,.i .i64 m),(28,lst (.st 2) (b.cls.map Clause.av)),(29,.i .i64 (b.cls.length:Int)),(30,.i .i64 0)] (ex t [.cells b.av.cells]))).bind (kc (kc (bkk 0) (sqk F0 X0 (cnt s) ((ACode.reg (some [0,45,46,47]) o47_10).seq (ACode.block 2 l47_1)))) (fk s [] false))) fun q=>q.1=.tup []∧Ck s0 D kt k q.2 B:=by
  intro t m ht hct
  refine W.step (rest t m ht) ?_
  rintro q ⟨t2,rfl,ht2⟩
  have c2:cnt t2=cnt s:=ht2.cnt.trans hc.symm
  simp only[go_sem,reduceCtorEq,↓reduceIte,nA,nB,nC,nD,nE,iA,iB,iC,iD,iE,iF,c2]
  have hx:=last t2 ht2
  rw[Bnd.cells_eq] at hx
  refine W.step hx ?_
  rintro q ⟨E,t3,rfl,ht3⟩
  have c3:cnt t3=cnt s:=ht3.cnt.trans hc.symm
  simp only[go_sem,reduceCtorEq,↓reduceIte,nA,nB,nC,nD,nE,iA,iB,iC,iD,iE,iF,c3]
  exact hF.back ht3
 rw[Bnd.cells_eq] at join
 rw[w_call (f:=47) rfl]
 simp only[go_sem,reduceCtorEq,↓reduceIte,nA,nB,nC,nD,nE,iA,iB,iC,iD,iE,iF,i0]
 refine W.ifc (fun d=>?_) (fun d=>?_)
 ·simp only[go_sem,reduceCtorEq,↓reduceIte,nA,nB,nC,nD,nE,iA,iB,iC,iD,iE,iF,d]
  refine W.ifc (fun d2=>?_) (fun d2=>?_)
  ·obtain⟨s2,f1,f2,-,-⟩:=(h.ex [.cells b.av.cells]).fails 80 b.l b.c
   obtain⟨t3,rfl,f3⟩:=f2.unex h.hk
   have c3:cnt t3=cnt s:=f3.cnt.trans hc.symm
   rw[Bnd.cells_eq] at f1
   simp only[go_sem,reduceCtorEq,↓reduceIte,nA,nB,nC,nD,nE,iA,iB,iC,iD,iE,iF,d2,f1,c3]
   exact join t3 _ f3 c3
  ·simp only[go_sem,reduceCtorEq,↓reduceIte,nA,nB,nC,nD,nE,iA,iB,iC,iD,iE,iF,d2]
   exact join s _ hF rfl
 ·simp only[go_sem,reduceCtorEq,↓reduceIte,nA,nB,nC,nD,nE,iA,iB,iC,iD,iE,iF,d]
  exact join s _ hF rfl
end Go.Am
namespace Go.Am
open Go
theorem binds1_tot {s0 D kt k s B} (bs:List Bnd) (rl rc rd g:Nat) (caps:List AV) (h:Ck s0 D kt k s B) (hrl:obj s0 rl=some (.cells [lst (.st 4) (bs.map Bnd.av)])) (hrc:obj s0 rc=some (.cells [.ref k 0])) (hrd:obj s0 rd=some (.cells [.clo g caps])) (h1:rl≠k) (h2:rc≠k) (h3:rd≠k)
  (H:∀ b∈bs,∀ c∈b.cls,∀ r∈c.rhs,∀ x∈r.parts,XC x) (hB:∀ b∈bs,B.length+b.sz≤900000) (hbl:bs.length≤900000) (hg:∀ s,Ck s0 D kt k s B→CT s0 D kt k B (C F0 X0 g caps s)):CT s0 D kt k B (C F0 X0 46 [.ref rl 0,.ref rc 0,.ref rd 0] s):=by
 have hF:=h
 have q1:=(h.oth rl h1).trans hrl
 rw[w_call (f:=46) rfl]
 simp only[go_sem,reduceCtorEq,↓reduceIte,nA,nB,nC,nD,nE,iA,iB,iC,iD,iE,iF,q1]
 refine W.step (W.range (n:=bs.length) (Q:=fun q=>∃ t,q=(.exit 0,[(1,.ref rc 0),(2,.ref rd 0),(5,lst (.st 4) (bs.map Bnd.av)),(6,.i .i64 (bs.length:Int)),(7,.i .i64 (bs.length:Int)),(8,.b false)],t)∧Ck s0 D kt k t B) (L:=l46_0) rfl (fun i E t=>E=[(1,.ref rc 0),(2,.ref rd 0),(5,lst (.st 4) (bs.map Bnd.av)),(6,.i .i64 (bs.length:Int)),(7,.i .i64 (i:Int))]∧Ck s0 D kt k t B) ?_ ?_ 0 _ _ (Nat.zero_le _) ⟨rfl,hF⟩) ?_
 ·rintro i E t ⟨rfl,ht⟩ hi
  have h0:=List.getElem?_eq_getElem hi
  have hm:=List.getElem_mem hi
  generalize bs[i]=b at h0 hm
  have g1:∀ k,aiad (.st 4) (lst (.st 4) (bs.map Bnd.av)) (.i k (i:Int))=some (.ep b.av.cells 0):=fun k=>lst_iad rfl (by rw[List.getElem?_map,h0];rfl)
  have g3:decide ((i:Int)<(bs.length:Int))=true:=by simp;omega
  have g5:=@wrap_one i (by omega)
  have q2:=(ht.oth rc h2).trans hrc
  have q3:=(ht.oth rd h3).trans hrd
  have l2:=obj_lt q2
  have l3:=obj_lt q3
  simp only[go_sem,reduceCtorEq,↓reduceIte,nA,nB,nC,nD,nE,iA,iB,iC,iD,iE,iF,g1,g3,q2,l2,l3,Nat.le_refl]
  have hx:=bind_tot b (ht.ex [.cells b.av.cells]) (H b hm) (hB b hm)
  rw[Bnd.cells_eq] at hx
  refine W.step hx ?_
  rintro⟨v,s2⟩ ⟨rfl,k1⟩
  obtain⟨t2,rfl,k3⟩:=k1.unex ht.hk
  have c2:cnt t2=cnt t:=k3.cnt.trans ht.cnt.symm
  simp only[go_sem,reduceCtorEq,↓reduceIte,nA,nB,nC,nD,nE,iA,iB,iC,iD,iE,iF,g5,c2,l2,l3]
  exact k3
 ·rintro E t ⟨rfl,ht⟩
  have g3:decide ((bs.length:Int)<(bs.length:Int))=false:=by simp
  have l2:=obj_lt ((ht.oth rc h2).trans hrc)
  have l3:=obj_lt ((ht.oth rd h3).trans hrd)
  simp only[go_sem,reduceCtorEq,↓reduceIte,nA,nB,nC,nD,nE,iA,iB,iC,iD,iE,iF,g3,l2,l3]
  exact⟨t,rfl,ht⟩
 ·rintro q ⟨t,rfl,ht⟩
  have q3:=(ht.oth rd h3).trans hrd
  have c2:cnt t=cnt s:=ht.cnt.trans hF.cnt.symm
  simp only[go_sem,reduceCtorEq,↓reduceIte,nA,nB,nC,nD,nE,iA,iB,iC,iD,iE,iF,q3]
  refine W.step (hg t ht) ?_
  rintro⟨v,t2⟩ ⟨rfl,ht2⟩
  have c3:cnt t2=cnt s:=ht2.cnt.trans hF.cnt.symm
  simp only[go_sem,reduceCtorEq,↓reduceIte,nA,nB,nC,nD,nE,iA,iB,iC,iD,iE,iF,c3]
  exact hF.back ht2
theorem cbinds_tot {s0 D kt k s B} (bs:List Bnd) (g:Nat) (caps:List AV) (h:Ck s0 D kt k s B)
  (H:∀ b∈bs,∀ c∈b.cls,∀ r∈c.rhs,∀ x∈r.parts,XC x) (hB:∀ b∈bs,B.length+bs.length+b.sz≤900000) (hbl:B.length+bs.length≤900000)
  (hg:∀ l s L,L.length≤bs.length→Ck (ex s0 l) D kt k s (B++L)→CT (ex s0 l) D kt k (B++L) (C F0 X0 g caps s)):CT s0 D kt k B (C F0 X0 22 [.ref k 0,lst (.st 4) (bs.map Bnd.av),.clo g caps] s):=by
 have hF:=h
 have hc:=h.cnt
 have hkl:=h.kl
 have hk0:=h.hk
 obtain⟨l0,hl0⟩:∃ l0:List Ob,l0=[.cells [.ref k 0],.cells [lst (.st 4) (bs.map Bnd.av)],.cells [.clo g caps]]:=⟨_,rfl⟩
 have p0:obj (ex s0 l0) (cnt s)=some (.cells [.ref k 0]):=(ex_obj0' (s:=s0) hc.symm).trans (by rw[hl0];rfl)
 have p1:obj (ex s0 l0) (cnt s+1)=some (.cells [lst (.st 4) (bs.map Bnd.av)]):=(ex_obj' (s:=s0) hc.symm).trans (by rw[hl0];rfl)
 have p2:obj (ex s0 l0) (cnt s+2)=some (.cells [.clo g caps]):=(ex_obj' (s:=s0) hc.symm).trans (by rw[hl0];rfl)
 rw[w_call (f:=22) rfl]
 simp only[go_sem,reduceCtorEq,↓reduceIte,nA,nB,nC,nD,nE,iA,iB,iC,iD,iE,iF]
 refine W.step (W.range (n:=bs.length) (Q:=fun q=>∃ L w A N t2,q=(.exit 0,[(3,.ref (cnt s) 0),(4,.ref (cnt s+1) 0),(5,.ref (cnt s+2) 0),(6,w),(9,lst (.st 4) (bs.map Bnd.av)),(10,.i .i64 (bs.length:Int)),(11,.i .i64 (bs.length:Int)),(12,.b false)],wa (ex t2 l0) A N)∧Ck s0 D kt k t2 B∧t2.arr=s.arr∧t2.nxt=s.nxt∧Loc s.arr s.nxt A N .one w (strs L)∧L.length≤bs.length) (L:=l22_0) rfl (fun i E u=>∃ L w A N t2,E=[(3,.ref (cnt s) 0),(4,.ref (cnt s+1) 0),(5,.ref (cnt s+2) 0),(6,w),(9,lst (.st 4) (bs.map Bnd.av)),(10,.i .i64 (bs.length:Int)),(11,.i .i64 (i:Int))]∧u=wa (ex t2 l0) A N∧Ck s0 D kt k t2 B∧t2.arr=s.arr∧t2.nxt=s.nxt∧Loc s.arr s.nxt A N .one w (strs L)∧L.length≤i) ?_ ?_ 0 _ _ (Nat.zero_le _) ⟨[],.nsl,s.arr,s.nxt,s,rfl,by rw[hl0];rfl,hF,rfl,rfl,Loc.nil,Nat.le_refl _⟩) ?_
 ·rintro i E u ⟨L,w,A,N,t2,rfl,rfl,ht2,ea,en,hL,hl⟩ hi
  have h0:=List.getElem?_eq_getElem hi
  generalize bs[i]=b at h0
  have g1:∀ k,aiad (.st 4) (lst (.st 4) (bs.map Bnd.av)) (.i k (i:Int))=some (.ep b.av.cells 0):=fun k=>lst_iad rfl (by rw[List.getElem?_map,h0];rfl)
  have g3:decide ((i:Int)<(bs.length:Int))=true:=by simp;omega
  have g5:=@wrap_one i (by omega)
  have c2:cnt t2=cnt s:=ht2.cnt.trans hc.symm
  have hgx:∃ d,Gr A N .one w (strs L) d∧(∀ a,d=some a→s.nxt≤a)∧Old s.nxt A s.arr∧s.nxt≤N∧(strs L=[]→w=.nsl):=hL
  obtain⟨-,-,-,ho,hN,-⟩:=hgx
  obtain⟨v0,e0,lx,c0,b0,d0,u1,u2,u3⟩:=ht2.tab
  have hk2:k<cnt t2:=obj_lt u1
  have uS:obj (wa (ex t2 (l0++[.cells b.av.cells])) A N) k=some (ckc kt v0 e0 lx c0 b0):=by rw[wa_obj,ex_old hk2];exact u1
  obtain⟨m,hop⟩:=Op_tot b.name (wa (ex t2 (l0++[.cells b.av.cells])) A N)
  obtain⟨f1,f2,f3,f4,hf⟩:=fails_tot _ 90 b.l b.c uS
  obtain⟨e1,e2,e3,e4,he⟩:=fails_tot _ 80 b.l b.c uS
  have hh:=yb_eq (has_tot b.name (wa (ex t2 (l0++[.cells b.av.cells])) A N) (hL.rd (by decide)) (by omega))
  obtain⟨w',A',N',k1,k2⟩:=hL.push (y:=.s b.name) (cy:=[.s b.name]) rfl (ele_one rfl) (by rw[strs_len];unfold most;omega)
  rw[wa_set,ex_sets hk2] at hf he
  rw[hl0,Bnd.cells_eq,List.cons_append,List.cons_append,List.cons_append,List.nil_append] at hop hf he hh
  have fin:∀ t3,Ck s0 D kt k t3 B→t3.arr=s.arr→t3.nxt=s.nxt→∃ L w A N t2,[(3,AV.ref (cnt s) 0),(4,AV.ref (cnt s+1) 0),(5,AV.ref (cnt s+2) 0),(6,w'),(9,lst (.st 4) (bs.map Bnd.av)),(10,.i .i64 (bs.length:Int)),(11,.i .i64 ((i+1:Nat):Int))]=[(3,.ref (cnt s) 0),(4,.ref (cnt s+1) 0),(5,.ref (cnt s+2) 0),(6,w),(9,lst (.st 4) (bs.map Bnd.av)),(10,.i .i64 (bs.length:Int)),(11,.i .i64 ((i+1:Nat):Int))]∧wa (ex t3 l0) A' N'=wa (ex t2 l0) A N∧Ck s0 D kt k t2 B∧t2.arr=s.arr∧t2.nxt=s.nxt∧Loc s.arr s.nxt A N .one w (strs L)∧L.length≤i+1:=fun t3 h3 ea en=>⟨L++[b.name],w',A',N',t3,rfl,rfl,h3,ea,en,strs_push▸k2,by simp;omega⟩
  rw[hl0] at fin
  simp only[go_sem,reduceCtorEq,↓reduceIte,nA,nB,nC,nD,nE,iA,iB,iC,iD,iE,iF,g1,g3,hl0,c2,Nat.le_refl,hop]
  refine W.ifc (fun d=>?_) (fun d=>?_)
  ·simp only[go_sem,reduceCtorEq,↓reduceIte,nA,nB,nC,nD,nE,iA,iB,iC,iD,iE,iF,d,hf,c2,k1,k2.low,g5,hL.low]
   exact fin _ (ht2.set u1) ea en
  ·simp only[go_sem,reduceCtorEq,↓reduceIte,nA,nB,nC,nD,nE,iA,iB,iC,iD,iE,iF,d,hh,c2]
   refine W.ifc (fun d2=>?_) (fun d2=>?_)
   ·simp only[go_sem,reduceCtorEq,↓reduceIte,nA,nB,nC,nD,nE,iA,iB,iC,iD,iE,iF,d2,he,c2,k1,k2.low,g5,hL.low]
    exact fin _ (ht2.set u1) ea en
   ·simp only[go_sem,reduceCtorEq,↓reduceIte,nA,nB,nC,nD,nE,iA,iB,iC,iD,iE,iF,d2,c2,k1,k2.low,g5,hL.low]
    exact fin _ ht2 ea en
 ·rintro E u ⟨L,w,A,N,t2,rfl,rfl,ht2,ea,en,hL,hl⟩
  have g3:decide ((bs.length:Int)<(bs.length:Int))=false:=by simp
  have c2:cnt t2=cnt s:=ht2.cnt.trans hc.symm
  simp only[go_sem,reduceCtorEq,↓reduceIte,nA,nB,nC,nD,nE,iA,iB,iC,iD,iE,iF,g3,hL.low,hl0,c2]
  exact⟨L,w,A,N,t2,rfl,ht2,ea,en,hL,hl⟩
 ·rintro q ⟨L,w,A,N,t2,rfl,ht2,ea,en,hL,hl⟩
  have c2:cnt t2=cnt s:=ht2.cnt.trans hc.symm
  have hS:Ck (ex s0 l0) D kt k (wa (ex t2 l0) A N) B:=by
   have hgx:∃ d,Gr A N .one w (strs L) d∧(∀ a,d=some a→s.nxt≤a)∧Old s.nxt A s.arr∧s.nxt≤N∧(strs L=[]→w=.nsl):=hL
   obtain⟨-,-,-,ho,hN,-⟩:=hgx
   rw[←ex_wa]
   exact (ht2.wa (by rw[ea,en];exact ho) (by rw[en];exact hN)).ex _
  have r0:obj (ex t2 l0) (cnt s)=some (.cells [.ref k 0]):=(ex_obj0' (s:=t2) c2).trans (by rw[hl0];rfl)
  simp only[go_sem,reduceCtorEq,↓reduceIte,nA,nB,nC,nD,nE,iA,iB,iC,iD,iE,iF,r0]
  refine W.step (cwithin_tot hS (hL.rd (by decide)) (by omega) (fun s' h'=>binds1_tot bs (cnt s+1) (cnt s) (cnt s+2) g caps h' p1 p0 p2 (by omega) (by omega) (by omega) H (fun b hb=>by rw[List.length_append];have:=hB b hb;omega) (by omega) (fun s'' h''=>hg l0 s'' L hl h''))) ?_
  rintro⟨v,s2⟩ ⟨rfl,j1⟩
  obtain⟨t3,rfl,j3⟩:=j1.unex hk0
  have c3:cnt t3=cnt s:=j3.cnt.trans hc.symm
  simp only[go_sem,reduceCtorEq,↓reduceIte,nA,nB,nC,nD,nE,iA,iB,iC,iD,iE,iF,c3]
  exact hF.back j3
theorem cargs_tot {s0 D kt k s B} (e:Xp) (re rf:Nat) (h:Ck s0 D kt k s B) (hre:obj s0 re=some (.cells e.av.cells)) (hrf:obj s0 rf=some (.cells [.ref k 0])) (h1:re≠k) (h2:rf≠k)
  (H:∀ x∈e.args,XC x) (hB:B.length+(e.args.map Xp.sz).sum≤900000):CT s0 D kt k B (C F0 X0 145 [.ref re 0,.ref rf 0] s):=by
 have hF:=h
 rw[Xp.cells_eq] at hre
 have q1:=(h.oth re h1).trans hre
 have hlen:=Xp.szs_len e.args
 rw[w_call (f:=145) rfl]
 simp only[go_sem,reduceCtorEq,↓reduceIte,nA,nB,nC,nD,nE,iA,iB,iC,iD,iE,iF,q1]
 refine W.step (W.range (n:=e.args.length) (Q:=fun q=>∃ E t,q=(.exit 0,E,t)∧Ck s0 D kt k t B) (L:=l145_0) rfl (fun i E t=>E=[(1,.ref rf 0),(5,lst (.st 9) (e.args.map Xp.av)),(6,.i .i64 (e.args.length:Int)),(7,.i .i64 (i:Int))]∧Ck s0 D kt k t B) ?_ ?_ 0 _ _ (Nat.zero_le _) ⟨rfl,hF⟩) ?_
 ·rintro i E t ⟨rfl,ht⟩ hi
  have h0:=List.getElem?_eq_getElem hi
  have hm:=List.getElem_mem hi
  generalize e.args[i]=x at h0 hm
  have g1:∀ k,aiad (.st 9) (lst (.st 9) (e.args.map Xp.av)) (.i k (i:Int))=some (.ep x.av.cells 0):=fun k=>lst_iad rfl (by rw[List.getElem?_map,h0];rfl)
  have h3:decide ((i:Int)<(e.args.length:Int))=true:=by simp;omega
  have h5:=@wrap_one i (by omega)
  have h6:=psum_lt (f:=Xp.sz) h0
  have q2:=(ht.oth rf h2).trans hrf
  have l2:=obj_lt q2
  simp only[go_sem,reduceCtorEq,↓reduceIte,nA,nB,nC,nD,nE,iA,iB,iC,iD,iE,iF,g1,h3,h5,q2,l2,Nat.le_refl]
  have hx:=H x hm _ _ _ _ _ _ (ht.ex [.cells x.av.cells]) (by omega)
  rw[Xp.cells_eq] at hx
  refine W.step hx ?_
  rintro⟨v,s2⟩ ⟨rfl,k1⟩
  obtain⟨t2,rfl,k3⟩:=k1.unex ht.hk
  have c2:cnt t2=cnt t:=k3.cnt.trans ht.cnt.symm
  simp only[go_sem,reduceCtorEq,↓reduceIte,nA,nB,nC,nD,nE,iA,iB,iC,iD,iE,iF,h5,c2,l2]
  exact k3
 ·rintro E t ⟨rfl,ht⟩
  have h3:decide ((e.args.length:Int)<(e.args.length:Int))=false:=by simp
  have q2:=(ht.oth rf h2).trans hrf
  have l2:=obj_lt q2
  simp only[go_sem,reduceCtorEq,↓reduceIte,nA,nB,nC,nD,nE,iA,iB,iC,iD,iE,iF,h3,l2]
  exact⟨_,_,rfl,ht⟩
 ·rintro q ⟨E,t,rfl,ht⟩
  have c2:cnt t=cnt s:=ht.cnt.trans hF.cnt.symm
  simp only[go_sem,reduceCtorEq,↓reduceIte,nA,nB,nC,nD,nE,iA,iB,iC,iD,iE,iF,c2]
  exact hF.back ht
theorem sl_rd {A:Nat→Option (List AV)} (l:List Str) (i:Nat):Rd A .one (.sl .one (strs (l.take i))) (strs (l.take i)):=by
 cases hp:l.take i with
 | nil=>exact⟨rfl,fun _=>rfl,rfl,fun _ _=>rfl,fun i x hx=>by cases hx⟩
 | cons y ys=>exact (Rd.lst strs_ele:Rd A .one (lst .one (strs (y::ys))) (strs (y::ys)))
theorem lst_slc {l:List Str} {i:Nat} (hi:i<l.length) (k:IntKind):aslice false (lst .one (strs l)) none (some (.i k (i:Int)))=some (.sl .one (strs (l.take i))):=by
 cases hp:l with
 | nil=>rw[hp] at hi;simp at hi
 | cons y ys =>
  show (if 0≤(i:Int)∧(i:Int)≤(List.length (strs (y::ys)):Nat) then some (AV.sl .one ((strs (y::ys)).take (i:Int).toNat)) else none)=_
  rw[hp] at hi
  rw[if_pos ⟨by omega,by rw[strs_len];omega⟩,Int.toNat_natCast]
  simp[strs]
theorem cexpr_step (n:Nat) (ih:∀ e:Xp,e.sz<n→XC e) (e:Xp) (hn:e.sz<n+1):XC e:=by
 intro s0 D kt k s B h hB
 have hF:=h
 have hc:=h.cnt
 have hkl:=h.hk
 have hks:=h.kl
 have hge:=Xp.sz_ge e
 have HA:∀ x∈e.args,XC x:=fun x hx=>ih x (by have:=sum_mem (f:=Xp.sz) hx;omega)
 have HL:∀ a∈e.alts,∀ r∈a.rhs,∀ x∈r.parts,XC x:=fun a ha r hr x hx=>ih x (by
  have h1:=sum_mem (f:=Alt.sz) ha
  have h2:=sum_mem (f:=Rhs.sz) hr
  have h3:=Alt.sz_eq a
  have h4:=Rhs.sz_eq r
  simp only[Rhs.parts,List.mem_append,List.mem_singleton] at hx
  rcases hx with hx|rfl
  ·have:=sum_mem (f:=Xp.sz) hx;omega
  ·omega)
 have HB:∀ b∈e.binds,∀ c∈b.cls,∀ r∈c.rhs,∀ x∈r.parts,XC x:=fun b hb c hc r hr x hx=>ih x (by
  have h1:=sum_mem (f:=Bnd.sz) hb
  have h2:=sum_mem (f:=Clause.sz) hc
  have h3:=sum_mem (f:=Rhs.sz) hr
  have h4:=Bnd.sz_eq b
  have h5:=Clause.sz_eq c
  have h6:=Rhs.sz_eq r
  simp only[Rhs.parts,List.mem_append,List.mem_singleton] at hx
  rcases hx with hx|rfl
  ·have:=sum_mem (f:=Xp.sz) hx;omega
  ·omega)
 have hal:=Alt.szs_len e.alts
 obtain⟨l0,hl0⟩:∃ l0:List Ob,l0=[.cells [.ref k 0],.cells e.av.cells]:=⟨_,rfl⟩
 have hl:Ck (ex s0 l0) D kt k (ex s l0) B:=h.ex l0
 have o0:obj (ex s0 l0) (cnt s)=some (.cells [.ref k 0]):=(ex_obj0' (s:=s0) hc.symm).trans (by rw[hl0];rfl)
 have o1:obj (ex s0 l0) (cnt s+1)=some (.cells e.av.cells):=(ex_obj' (s:=s0) hc.symm).trans (by rw[hl0];rfl)
 have n0:cnt s≠k:=by omega
 have n1:cnt s+1≠k:=by omega
 have fin:∀ {t:St},Ck (ex s0 l0) D kt k t B→∃ t2,t=ex t2 l0∧Ck s0 D kt k t2 B∧cnt t2=cnt s:=fun ht=>by
  obtain⟨t2,rfl,h2⟩:=ht.unex hkl
  exact⟨t2,rfl,h2,h2.cnt.trans hc.symm⟩
 have hargs:∀ {l t B'},Ck (ex (ex s0 l0) l) D kt k t B'→B'.length+(e.args.map Xp.sz).sum≤900000→CT (ex (ex s0 l0) l) D kt k B' (C F0 X0 145 [.ref (cnt s+1) 0,.ref (cnt s) 0] t):=fun ht hb=>cargs_tot e _ _ ht (by rw[ex_old (by rw[ex_cnt,hl0,hc];show cnt s0+1<cnt s0+2;omega)];exact o1) (by rw[ex_old (by rw[ex_cnt,hl0,hc];show cnt s0<cnt s0+2;omega)];exact o0) n1 n0 HA hb
 have hargs0:∀ {t B'},Ck (ex s0 l0) D kt k t B'→B'.length+(e.args.map Xp.sz).sum≤900000→CT (ex s0 l0) D kt k B' (C F0 X0 145 [.ref (cnt s+1) 0,.ref (cnt s) 0] t):=fun ht hb=>cargs_tot e _ _ ht o1 o0 n1 n0 HA hb
 obtain⟨v0,e0,lx,c0,b0,d0,u1,u2,u3⟩:=h.tab
 have u1':obj (ex s l0) k=some (ckc kt v0 e0 lx c0 b0):=by rw[ex_old hks];exact u1
 have u1s:=u1
 unfold ckc at u1s
 rw[w_call (f:=135) rfl]
 have hl0':=hl0
 rw[Xp.cells_eq] at hl0'
 by_cases k1:e.kind=1
 ·have c1:(e.kind==1)=true:=by rw[k1];rfl
  obtain⟨m,hop⟩:=Op_tot e.name (ex s l0)
  have hh:=yb_eq (has_tot e.name (ex s l0) (u2.rd (by decide)) (by omega))
  obtain⟨s2,f1,f2,-,-⟩:=hl.fails 81 e.l e.c
  obtain⟨t3,rfl,f3⟩:=f2.unex hkl
  have c3:cnt t3=cnt s:=f3.cnt.trans hc.symm
  rw[hl0'] at hop hh f1
  simp only[go_sem,reduceCtorEq,↓reduceIte,nA,nB,nC,nD,nE,iA,iB,iC,iD,iE,iF,c1,hop,hks,u1s]
  refine W.ifc (fun d=>?_) (fun d=>?_)
  ·simp only[go_sem,reduceCtorEq,↓reduceIte,nA,nB,nC,nD,nE,iA,iB,iC,iD,iE,iF,d,hks,u1s,hh]
   refine W.ifc (fun d2=>?_) (fun d2=>?_)
   ·simp only[go_sem,reduceCtorEq,↓reduceIte,nA,nB,nC,nD,nE,iA,iB,iC,iD,iE,iF,d2]
    exact hF
   ·simp only[go_sem,reduceCtorEq,↓reduceIte,nA,nB,nC,nD,nE,iA,iB,iC,iD,iE,iF,d2,f1,c3]
    exact hF.back f3
  ·simp only[go_sem,reduceCtorEq,↓reduceIte,nA,nB,nC,nD,nE,iA,iB,iC,iD,iE,iF,d]
   exact hF
 have c1:(e.kind==1)=false:=by simp[k1]
 by_cases k2:e.kind=2
 ·have c2:(e.kind==2)=true:=by rw[k2];rfl
  obtain⟨con,tt,hcon⟩:=Con_tot e.name (ex s (l0++[.cells [.s [],.s [],.i .i64 0,.i .i64 0,.nsl]])) (h.tbl.ex (Nat.le_of_lt hks)) (by rw[ex_cnt];omega)
  obtain⟨s2,f1,f2,-,-⟩:=(h.ex (l0++[.cells con.av.cells])).fails 81 e.l e.c
  obtain⟨t3,rfl,f3⟩:=f2.unex hkl
  have c3:cnt t3=cnt s:=f3.cnt.trans hc.symm
  rw[hl0',List.cons_append,List.cons_append,List.nil_append] at hcon f1
  rw[Con.cells_eq] at f1
  simp only[go_sem,reduceCtorEq,↓reduceIte,nA,nB,nC,nD,nE,iA,iB,iC,iD,iE,iF,c1,c2,hks,u1s,hcon]
  refine W.ifc (fun d=>?_) (fun d=>?_)
  ·simp only[go_sem,reduceCtorEq,↓reduceIte,nA,nB,nC,nD,nE,iA,iB,iC,iD,iE,iF,d]
   exact hF
  ·simp only[go_sem,reduceCtorEq,↓reduceIte,nA,nB,nC,nD,nE,iA,iB,iC,iD,iE,iF,d,f1,c3]
   exact hF.back f3
 have c2:(e.kind==2)=false:=by simp[k2]
 by_cases k5:e.kind=5
 ·have c5:(e.kind==5)=true:=by rw[k5];rfl
  obtain⟨ys,hy,hreal⟩:=real_tot e.params (by omega) (ex s l0)
  rw[hl0'] at hreal
  simp only[go_sem,reduceCtorEq,↓reduceIte,nA,nB,nC,nD,nE,iA,iB,iC,iD,iE,iF,c1,c2,c5,hreal,strs_len]
  rw[←hl0']
  have hyl:ys.length≤900000:=by omega
  refine W.step (W.range (n:=ys.length) (Q:=fun q=>∃ t,q=(.exit 3,[(2,.ref (cnt s) 0),(3,.ref (cnt s+1) 0),(4,.clo 145 [.ref (cnt s+1) 0,.ref (cnt s) 0]),(7,lst .one (strs ys)),(75,lst .one (strs ys)),(76,.i .i64 (ys.length:Int)),(77,.i .i64 (ys.length:Int)),(78,.b false)],t)∧Ck (ex s0 l0) D kt k t B) (L:=l135_0) rfl (fun i E t=>E=[(2,.ref (cnt s) 0),(3,.ref (cnt s+1) 0),(4,.clo 145 [.ref (cnt s+1) 0,.ref (cnt s) 0]),(7,lst .one (strs ys)),(75,lst .one (strs ys)),(76,.i .i64 (ys.length:Int)),(77,.i .i64 (i:Int))]∧Ck (ex s0 l0) D kt k t B) ?_ ?_ 0 _ _ (Nat.zero_le _) ⟨rfl,hl⟩) ?_
  ·rintro i E t ⟨rfl,ht⟩ hi
   have h0:=List.getElem?_eq_getElem hi
   generalize ys[i]=a at h0
   have g1:∀ k,aiad .one (lst .one (strs ys)) (.i k (i:Int))=some (.ep [.s a] 0):=fun k=>lst_iad (x:=.s a) rfl (by simp[strs,h0])
   have g3:decide ((i:Int)<(ys.length:Int))=true:=by simp;omega
   have g5:=@wrap_one i (by omega)
   have g7:=lst_slc hi
   have hh:=yb_eq (has_tot a t (sl_rd ys i) (by rw[List.length_take];omega))
   have r0:=(ht.oth _ n0).trans o0
   have r1:=(ht.oth _ n1).trans o1
   rw[Xp.cells_eq] at r1
   obtain⟨s2,f1,f2,-,-⟩:=ht.fails 80 e.l e.c
   simp only[go_sem,reduceCtorEq,↓reduceIte,nA,nB,nC,nD,nE,iA,iB,iC,iD,iE,iF,g1,g3,g7,hh]
   refine W.ifc (fun d=>?_) (fun d=>?_)
   ·simp only[go_sem,reduceCtorEq,↓reduceIte,nA,nB,nC,nD,nE,iA,iB,iC,iD,iE,iF,d,r0,r1,f1,g5]
    exact f2
   ·simp only[go_sem,reduceCtorEq,↓reduceIte,nA,nB,nC,nD,nE,iA,iB,iC,iD,iE,iF,d,g5]
    exact ht
  ·rintro E t ⟨rfl,ht⟩
   have g3:decide ((ys.length:Int)<(ys.length:Int))=false:=by simp
   simp only[go_sem,reduceCtorEq,↓reduceIte,nA,nB,nC,nD,nE,iA,iB,iC,iD,iE,iF,g3]
   exact⟨t,rfl,ht⟩
  ·rintro q ⟨t,rfl,ht⟩
   have r0:=(ht.oth _ n0).trans o0
   simp only[go_sem,reduceCtorEq,↓reduceIte,nA,nB,nC,nD,nE,iA,iB,iC,iD,iE,iF,r0]
   refine W.step (cwithin_tot (L:=ys) ht (Rd.lst strs_ele) (by omega) (fun s' h'=>hargs0 h' (by rw[List.length_append];omega))) ?_
   rintro⟨w,t⟩ ⟨rfl,ht⟩
   obtain⟨t2,rfl,ht2,ct2⟩:=fin ht
   simp only[go_sem,reduceCtorEq,↓reduceIte,nA,nB,nC,nD,nE,iA,iB,iC,iD,iE,iF,ct2]
   exact hF.back ht2
 have c5:(e.kind==5)=false:=by simp[k5]
 by_cases k6:e.kind=6
 ·have c6:(e.kind==6)=true:=by rw[k6];rfl
  have hbl:=Bnd.szs_len e.binds
  have hbv:=Xp.bvs_eq (e:=e) (by omega)
  simp only[go_sem,reduceCtorEq,↓reduceIte,nA,nB,nC,nD,nE,iA,iB,iC,iD,iE,iF,c1,c2,c5,c6,hbv]
  rw[←hbv,←hl0',hbv]
  refine W.step (cbinds_tot e.binds _ _ hl HB (fun b hb=>by have:=sum_mem_len Bnd.sz_pos hb;omega) (by omega) (fun l s' L hL h'=>hargs h' (by rw[List.length_append];omega))) ?_
  rintro⟨w,t⟩ ⟨rfl,ht⟩
  obtain⟨t2,rfl,ht2,ct2⟩:=fin ht
  simp only[go_sem,reduceCtorEq,↓reduceIte,nA,nB,nC,nD,nE,iA,iB,iC,iD,iE,iF,ct2]
  exact hF.back ht2
 have c6:(e.kind==6)=false:=by simp[k6]
 simp only[go_sem,reduceCtorEq,↓reduceIte,nA,nB,nC,nD,nE,iA,iB,iC,iD,iE,iF,c1,c2,c5,c6]
 rw[←hl0']
 refine W.step (hargs0 hl (by omega)) ?_
 rintro⟨w,t⟩ ⟨rfl,ht⟩
 have r1:=(ht.oth _ n1).trans o1
 rw[Xp.cells_eq] at r1
 simp only[go_sem,reduceCtorEq,↓reduceIte,nA,nB,nC,nD,nE,iA,iB,iC,iD,iE,iF,r1]
 refine W.step (W.range (n:=e.alts.length) (Q:=fun q=>∃ E t,q=(.exit 1,E,t)∧Ck (ex s0 l0) D kt k t B) (L:=l135_1) rfl (fun i E t=>E=[(2,.ref (cnt s) 0),(18,lst (.st 7) (e.alts.map Alt.av)),(19,.i .i64 (e.alts.length:Int)),(20,.i .i64 (i:Int))]∧Ck (ex s0 l0) D kt k t B) ?_ ?_ 0 _ _ (Nat.zero_le _) ⟨rfl,ht⟩) ?_
 ·rintro i E t ⟨rfl,ht⟩ hi
  have h0:=List.getElem?_eq_getElem hi
  have hm:=List.getElem_mem hi
  generalize e.alts[i]=a at h0 hm
  have g1:∀ k,aiad (.st 7) (lst (.st 7) (e.alts.map Alt.av)) (.i k (i:Int))=some (.ep a.av.cells 0):=fun k=>lst_iad rfl (by rw[List.getElem?_map,h0];rfl)
  have h3:decide ((i:Int)<(e.alts.length:Int))=true:=by simp;omega
  have h5:=@wrap_one i (by omega)
  have h6:=psum_lt (f:=Alt.sz) h0
  have hsz:=Alt.sz_eq a
  have r0:=(ht.oth _ n0).trans o0
  have l0t:=obj_lt r0
  simp only[go_sem,reduceCtorEq,↓reduceIte,nA,nB,nC,nD,nE,iA,iB,iC,iD,iE,iF,g1,h3,h5,r0,l0t,Nat.le_refl]
  obtain⟨D',b1,b2,b3⟩:=(ht.ex [.cells a.av.cells]).base a.pat.av.cells
  have hx:=cpats_tot [a.pat] a.rhs b1 (rdd_one rfl a.pat.ele b3 (by decide)) (HL a hm) (by simp;omega)
  rw[Alt.cells_eq,Pat.cells_eq] at hx
  refine W.step hx ?_
  rintro⟨w,s2⟩ ⟨rfl,k1⟩
  rw[←Alt.cells_eq,←Pat.cells_eq] at k1
  obtain⟨t2,rfl,k3⟩:=(b2 _ _ k1).unex ht.hk
  have c2:cnt t2=cnt t:=k3.cnt.trans ht.cnt.symm
  simp only[go_sem,reduceCtorEq,↓reduceIte,nA,nB,nC,nD,nE,iA,iB,iC,iD,iE,iF,h5,c2,l0t]
  exact k3
 ·rintro E t ⟨rfl,ht⟩
  have h3:decide ((e.alts.length:Int)<(e.alts.length:Int))=false:=by simp
  have r0:=(ht.oth _ n0).trans o0
  have l0t:=obj_lt r0
  simp only[go_sem,reduceCtorEq,↓reduceIte,nA,nB,nC,nD,nE,iA,iB,iC,iD,iE,iF,h3,l0t]
  exact⟨_,_,rfl,ht⟩
 ·rintro q ⟨E,t,rfl,ht⟩
  obtain⟨t2,rfl,ht2,ct2⟩:=fin ht
  simp only[go_sem,reduceCtorEq,↓reduceIte,nA,nB,nC,nD,nE,iA,iB,iC,iD,iE,iF,ct2]
  exact hF.back ht2
theorem cexpr_tot (e:Xp):XC e:=by
 have h:∀ n,∀ e:Xp,e.sz<n→XC e:=by
  intro n
  induction n with
  | zero=>intro e h;omega
  | succ n ih=>exact fun e he=>cexpr_step n ih e he
 exact h _ e (Nat.lt_succ_self _)
def Prog.sz (p:Prog):Nat:=(p.datas.map Data.sz).sum+p.fixes.length+(p.binds.map Bnd.sz).sum
theorem Prog.fold (p:Prog):AV.agg [lst (.st 5) (p.datas.map Data.av),lst (.st 5) (p.fixes.map FixT.av),lst (.st 4) (p.binds.map Bnd.av)]=p.av:=(rfl)
attribute [go_sem] Prog.fold
theorem Constr.ok_sz {c:Constr} (h:c.sz≤900000):c.ok:=by
 unfold Constr.sz at h
 rw[Ty.szs_sum] at h
 have h1:=Ty.szs_len c.fields
 exact⟨by omega,fun x hx=>Ty.ok_sz x (by have:=sum_mem (f:=Ty.sz) hx;omega)⟩
theorem Data.ok_sz {d:Data} (h:d.sz≤900000):d.ok:=by
 unfold Data.sz at h
 have h1:=Constr.szs_len d.cons
 exact⟨by omega,by omega,fun x hx=>Constr.ok_sz (by have:=sum_mem (f:=Constr.sz) hx;omega)⟩
theorem Prog.ok_sz {p:Prog} (h:p.sz≤800000):p.ok:=by
 unfold Prog.sz at h
 have h1:=Data.szs_len p.datas
 have h2:=Bnd.szs_len p.binds
 exact⟨by omega,by omega,by omega,fun x hx=>Data.ok_sz (by have:=sum_mem (f:=Data.sz) hx;omega),fun x hx=>Bnd.ok_sz x (by have:=sum_mem (f:=Bnd.sz) hx;omega)⟩
theorem TbAt.le {s k b b'} (h:TbAt s k b) (hb:b≤b'):TbAt s k b':=by
 obtain⟨m1,m2,v,es1,es2,h1,h2,h3,h4,h5,h6,h7,h8⟩:=h
 exact⟨m1,m2,v,es1,es2,by omega,by omega,by omega,h4,h5,h6,h7,h8⟩
theorem none_tot (s:St):C F0 X0 23 [] s=some (.tup [],s):=by
 refine W.eq ?_
 rw[w_call (f:=23) rfl]
 simp only[go_sem,reduceCtorEq,↓reduceIte,nA,nB,nC,nD,nE,iA,iB,iC,iD,iE,iF,one_nil]
theorem Check_tot (p:Prog) (hp:p.sz≤400000) (s:St):∃ e l c,C F0 X0 5 [p.av] s=some (flt e l c,s):=by
 suffices h:W (C F0 X0 5 [p.av] s) fun q=>∃ e l c,q=(flt e l c,s) by
  obtain⟨r,h1,e,l,c,rfl⟩:=h;exact⟨e,l,c,h1⟩
 have ok:=Prog.ok_sz (p:=p) (by omega)
 have hbl:=Bnd.szs_len p.binds
 have hz:(p.datas.map Data.sz).sum+p.fixes.length+(p.binds.map Bnd.sz).sum≤400000:=hp
 have hR:=fun s=>yb_eq (Right_tot p ok s)
 rw[w_call (f:=5) rfl]
 obtain⟨l0,hl0⟩:∃ l0:List Ob,l0=[.cells p.av.cells,.cells [.i .i64 0,.i .i64 0,.i .i64 0]]:=⟨_,rfl⟩
 have hl0':=hl0
 rw[Prog.cells_eq] at hl0'
 simp only[go_sem,reduceCtorEq,↓reduceIte,nA,nB,nC,nD,nE,iA,iB,iC,iD,iE,iF,hR]
 refine W.ifc (fun d=>?_) (fun d=>?_)
 ·simp only[go_sem,reduceCtorEq,↓reduceIte,nA,nB,nC,nD,nE,iA,iB,iC,iD,iE,iF,d]
  have hN:=New_tot p.datas (by omega) (ex s l0)
  rw[hl0'] at hN
  refine W.step hN ?_
  rintro⟨v,t⟩ (⟨e,l,c,he,hq⟩|⟨kt,rfl,hkt,hm⟩)
  ·injection hq with h1 h2
   subst h1 h2
   have he':(e != 0)=true:=by simpa using he
   unfold flt
   simp only[go_sem,reduceCtorEq,↓reduceIte,nA,nB,nC,nD,nE,iA,iB,iC,iD,iE,iF,he']
   exact⟨e,l,c,rfl⟩
  ·unfold flt
   have hm':=hm
   rw[←hl0'] at hm hkt
   replace hm:Made (ex s l0) t kt:=hm
   obtain⟨m1,m2,m3,m4,m5⟩:=hm
   have hc0:cnt (ex s l0)=cnt s+2:=by rw[ex_cnt,hl0];rfl
   have t0:obj t (cnt s)=some (.cells p.av.cells):=(m3 _ (by omega)).trans (by rw[ex_obj0,hl0];rfl)
   have t1:obj t (cnt s+1)=some (.cells [.i .i64 0,.i .i64 0,.i .i64 0]):=(m3 _ (by omega)).trans (by rw[ex_obj,hl0];rfl)
   have lt0:=obj_lt t0
   have lt1:=obj_lt t1
   rw[Prog.cells_eq] at t0
   simp only[go_sem,reduceCtorEq,↓reduceIte,nA,nB,nC,nD,nE,iA,iB,iC,iD,iE,iF,t0,t1,lt0,lt1]
   have hk:kt<cnt t:=by obtain⟨_,_,_,_,_,h,-⟩:=m1;exact h
   obtain⟨sc,hsc⟩:∃ sc,sc=ex t [.cells [.i .i64 0,.i .i64 0,.i .i64 0],.cells [.ref kt 0,.nsl,.i .i64 0,.i .i64 0,.i .i64 0,.b false]]:=⟨_,rfl⟩
   have hcsc:cnt sc=cnt t+2:=by rw[hsc,ex_cnt];rfl
   have Z:Ck sc (fun _=>False) kt (cnt t+1) sc []:=⟨rfl,fun _ _=>rfl,by omega,by rw[hsc];exact (m1.ex (Nat.le_refl _)).le (by omega),fun _ _ _=>rfl,Nat.le_refl _,.nsl,0,0,0,false,none,by rw[hsc,ex_obj];rfl,Gr.nil,(fun a h=>nomatch h)⟩
   have low:∀ {t2 r},(∀ r,r≠cnt t+1→obj t2 r=obj sc r)→r<cnt t→obj t2 r=obj t r:=fun h hr=>(h _ (by omega)).trans (by rw[hsc,ex_old hr])
   rw[←hsc]
   refine W.step (W.range (n:=p.fixes.length) (Q:=fun q=>∃ E t2,q=(.exit 0,E,t2)∧get E 1=some (.ref (cnt s) 0)∧get E 2=some (.ref (cnt s+1) 0)∧get E 5=some (.ref (cnt t+1) 0)∧Ck sc (fun _=>False) kt (cnt t+1) t2 []) (L:=l5_0) rfl (fun i E u=>∃ L w A N t2,E=[(1,.ref (cnt s) 0),(2,.ref (cnt s+1) 0),(5,.ref (cnt t+1) 0),(6,w),(27,lst (.st 5) (p.fixes.map FixT.av)),(28,.i .i64 (p.fixes.length:Int)),(29,.i .i64 (i:Int))]∧u=wa t2 A N∧Ck sc (fun _=>False) kt (cnt t+1) t2 []∧t2.arr=sc.arr∧t2.nxt=sc.nxt∧Loc sc.arr sc.nxt A N .one w (strs L)∧L.length≤i) ?_ ?_ 0 _ _ (Nat.zero_le _) ⟨[],.nsl,sc.arr,sc.nxt,sc,rfl,rfl,Z,rfl,rfl,Loc.nil,Nat.le_refl _⟩) ?_
   ·rintro i E u ⟨L,w,A,N,t2,rfl,rfl,ht2,ea,en,hL,hl⟩ hi
    have h0:=List.getElem?_eq_getElem hi
    generalize p.fixes[i]=f at h0
    have g1:∀ k,aiad (.st 5) (lst (.st 5) (p.fixes.map FixT.av)) (.i k (i:Int))=some (.ep f.av.cells 0):=fun k=>lst_iad rfl (by rw[List.getElem?_map,h0];rfl)
    have g3:decide ((i:Int)<(p.fixes.length:Int))=true:=by simp;omega
    have g5:=@wrap_one i (by omega)
    have c2:cnt t2=cnt t+2:=ht2.cnt.trans hcsc
    have e1:cnt s<cnt t+2:=by omega
    have e2:cnt s+1<cnt t+2:=by omega
    obtain⟨v0,e0,lx,c0,b0,d0,u1,u2,u3⟩:=ht2.tab
    have hk2:cnt t+1<cnt t2:=obj_lt u1
    have uS:obj (wa (ex t2 [.cells f.av.cells]) A N) (cnt t+1)=some (ckc kt v0 e0 lx c0 b0):=by rw[wa_obj,ex_old hk2];exact u1
    obtain⟨f1,f2,f3,f4,hf⟩:=fails_tot _ 80 f.l f.c uS
    have hh:=yb_eq (has_tot f.op (wa (ex t2 [.cells f.av.cells]) A N) (hL.rd (by decide)) (by omega))
    obtain⟨w',A',N',k1,k2⟩:=hL.push (y:=.s f.op) (cy:=[.s f.op]) rfl (ele_one rfl) (by rw[strs_len];unfold most;omega)
    rw[wa_set,ex_sets hk2] at hf
    rw[FixT.cells_eq] at hf hh
    have k3:∀ (u:St),agrow (newAr (wa u A N) [.s f.op]) .one 1 [.s f.op] w=some (w',wa u A' N'):=k1
    simp only[go_sem,reduceCtorEq,↓reduceIte,nA,nB,nC,nD,nE,iA,iB,iC,iD,iE,iF,g1,g3,c2,e1,e2,hh,Nat.le_refl]
    refine W.ifc (fun d=>?_) (fun d=>?_)
    ·simp only[go_sem,reduceCtorEq,↓reduceIte,nA,nB,nC,nD,nE,iA,iB,iC,iD,iE,iF,d,hf,c2,k3,k2.low,g5,hL.low,e1,e2]
     exact⟨L++[f.op],w',A',N',_,rfl,rfl,ht2.set u1,ea,en,strs_push▸k2,by simp;omega⟩
    ·simp only[go_sem,reduceCtorEq,↓reduceIte,nA,nB,nC,nD,nE,iA,iB,iC,iD,iE,iF,d,c2,k3,k2.low,g5,hL.low,e1,e2]
     exact⟨L++[f.op],w',A',N',t2,rfl,rfl,ht2,ea,en,strs_push▸k2,by simp;omega⟩
   ·rintro E u ⟨L,w,A,N,t2,rfl,rfl,ht2,ea,en,hL,hl⟩
    have g3:decide ((p.fixes.length:Int)<(p.fixes.length:Int))=false:=by simp
    have c2:cnt t2=cnt t+2:=ht2.cnt.trans hcsc
    have e1:cnt s<cnt t+2:=by omega
    have e2:cnt s+1<cnt t+2:=by omega
    have hgx:∃ d,Gr A N .one w (strs L) d∧(∀ a,d=some a→sc.nxt≤a)∧Old sc.nxt A sc.arr∧sc.nxt≤N∧(strs L=[]→w=.nsl):=hL
    obtain⟨-,-,-,ho,hN,-⟩:=hgx
    simp only[go_sem,reduceCtorEq,↓reduceIte,nA,nB,nC,nD,nE,iA,iB,iC,iD,iE,iF,g3,c2,hL.low,e1,e2]
    exact⟨_,_,rfl,rfl,rfl,rfl,ht2.wa (by rw[ea,en];exact ho) (by rw[en];exact hN)⟩
   ·rintro q ⟨E,t2,rfl,e1,e2,e5,ht2⟩
    have z0:obj t2 (cnt s)=some (.cells p.av.cells):=(low ht2.oth (by omega)).trans (by rw[t0,Prog.cells_eq])
    rw[Prog.cells_eq] at z0
    simp only[go_sem,reduceCtorEq,↓reduceIte,nA,nB,nC,nD,nE,iA,iB,iC,iD,iE,iF,e1,e2,e5,z0]
    refine W.step (cbinds_tot p.binds 23 [] ht2 (fun b _ c _ r _ x _=>cexpr_tot x) (fun b hb=>by have:=sum_mem (f:=Bnd.sz) hb;simp;omega) (by simp;omega) (fun l s' L hL h'=>⟨_,none_tot s',rfl,h'⟩)) ?_
    rintro⟨w,t3⟩ ⟨rfl,ht3⟩
    obtain⟨v0,e0,lx,c0,b0,d0,u1,u2,u3⟩:=ht3.tab
    have z1:obj t3 (cnt s+1)=some (.cells [.i .i64 0,.i .i64 0,.i .i64 0]):=(low ht3.oth (by omega)).trans t1
    have z2:=obj_lt z1
    unfold ckc at u1
    simp only[go_sem,reduceCtorEq,↓reduceIte,nA,nB,nC,nD,nE,iA,iB,iC,iD,iE,iF,e2,e5,u1,z1,z2]
    refine⟨e0,lx,c0,?_⟩
    have c3:cnt t3=cnt t+2:=ht3.cnt.trans hcsc
    rw[cut_eq (s:=s) rfl (by rw[cnt_set];omega) (fun r hr=>by rw[obj_set' (by omega),low ht3.oth (by omega),m3 r (by omega),ex_old hr])]
    rw[back_wa (fun a ha=>?_) rfl]
    have h1:t3.arr a=sc.arr a:=ht3.fr a (by rw[hsc];show a<t.nxt;have:(ex s l0).nxt≤t.nxt:=m5;exact Nat.lt_of_lt_of_le ha this) (fun h=>h)
    have h2:sc.arr a=t.arr a:=by rw[hsc];rfl
    exact h1.trans (h2.trans (m4 a ha))
 ·simp only[go_sem,reduceCtorEq,↓reduceIte,nA,nB,nC,nD,nE,iA,iB,iC,iD,iE,iF,d]
  exact⟨_,_,_,rfl⟩
end Go.Am
namespace Go.Am
open Go
theorem Program_w (src:Str) (s:St):W (C F0 X0 4 [.s src] s) fun q=>∃ (P:Prog) (e l c:Int),q=(.tup [P.av,flt e l c],s)∧P.sz≤400000∧P.binds.length≤2048:=by
 rw[w_call (f:=4) rfl]
 simp only[go_sem,reduceCtorEq,↓reduceIte,nA,nB,nC,nD,nE,iA,iB,iC,iD,iE,iF]
 refine W.step (begin_w src _) ?_
 rintro _ ⟨p,f,rfl,hw⟩
 simp only[go_sem,reduceCtorEq,↓reduceIte,nA,nB,nC,nD,nE,iA,iB,iC,iD,iE,iF]
 have hpm:p.m≤12001:=by have:=p.hl;unfold PS.m;split<;>omega
 obtain⟨s1,hs1⟩:∃ s1,s1=(ex s [.cells [.nsl,.nsl,.nsl],.cells [.i .i64 0,.i .i64 0,.i .i64 0],.cells [.i .i64 f.err,.i .i64 f.line,.i .i64 f.col],p.ob,.cells [.ref (cnt s+3) 0],.cells [.nsl,.nsl,.nsl]]):=⟨_,rfl⟩
 have hn1:s1.nxt=s.nxt:=by rw[hs1];rfl
 have ha1:s1.arr=s.arr:=by rw[hs1];rfl
 have ho1:∀ o,obj s1 (cnt s+5)=some o→o.alow s.nxt=true:=fun o ho=>by
  rw[hs1,ex_obj] at ho
  injection ho with ho
  subst ho
  rfl
 have hU0:Und s 250000 [.i .i64 f.err,.i .i64 f.line,.i .i64 f.col] p s1:=⟨.nsl,.nsl,.nsl,[],[],[],s.arr,s.nxt,hs1,P3.nil,Nat.le_refl _,by unfold tsz bsz;simp;omega,fun _=>by simpa using hw⟩
 rw[←hs1]
 refine W.step (block_w (k:=cnt s+3) (c0:=cnt s+6) (m0:=p.m+1) (Und s 250000 [.i .i64 f.err,.i .i64 f.line,.i .i64 f.col]) s1 (fun p t h=>⟨h.cnt,h.ob⟩) (fun p p' t h h1 h2=>h.set h1 h2) (fun p t h hb hm=>h.one (by omega) hb) (fun p t n h=>h.back hn1 ha1 ho1) p hU0 (by omega)) ?_
 ·rintro _ ⟨p1,t,n,rfl,hU,h1,h2⟩
  obtain⟨d,f2,l,ds,fs,es,A,N,rfl,hP,hN,hZ,hE⟩:=hU
  simp only[go_sem,reduceCtorEq,↓reduceIte,nA,nB,nC,nD,nE,iA,iB,iC,iD,iE,iF,hP.lowd,hP.lowf,hP.gb.low]
  refine W.step (text_w (p:=p1) _ (by rw[wa_obj,ex_obj];rfl)) ?_
  rintro _ ⟨p2,x2,rfl,a1,a2,a3⟩
  simp only[go_sem,reduceCtorEq,↓reduceIte,nA,nB,nC,nD,nE,iA,iB,iC,iD,iE,iF]
  refine W.step (ends_w (p:=p2) (by rw[wa_obj,ex_obj];rfl)) ?_
  rintro _ ⟨p3,rfl,b1,b2,b3⟩
  have hG:=hP.gb
  have hfz:∀ u,frz 20000 l (wa u A N)=some (lst (.st 4) ((es.map fun e=>e.b).map Bnd.av),wa u (clr A (foot l es)) N):=fun u=>by
   rw[List.map_map];exact hG.fz.use 19996 u N
  simp only[go_sem,reduceCtorEq,↓reduceIte,nA,nB,nC,nD,nE,iA,iB,iC,iD,iE,iF,hP.lowd,hP.lowf,hP.gb.low,PS.ob,hP.onef]
  have hbl:=bsz_len es
  unfold tsz at hZ
  refine W.ifc (fun hb=>?_) (fun hb=>?_)
  ·simp only[go_sem,reduceCtorEq,↓reduceIte,nA,nB,nC,nD,nE,iA,iB,iC,iD,iE,iF,hb,hP.lowd,hP.lowf,hP.gb.low,hP.onef,frz_tup,frzAll_cons,frzAll_nil,frz_agg,frz_nsl,frz_i]
   rw[back_wa hG.old rfl]
   exact⟨⟨[],[],[]⟩,p3.e,p3.ln,p3.cl,rfl,by simp[Prog.sz],by simp⟩
  ·have hfs:((es.map fun e=>e.b).map Bnd.sz).sum=bsz es:=by unfold bsz;rw[List.map_map];rfl
   have hGS:GS (wa (ex s [.cells [.nsl,.nsl,.nsl],.cells [.i .i64 0,.i .i64 0,.i .i64 0],.cells [.i .i64 f.err,.i .i64 f.line,.i .i64 f.col],.cells [lst (.st 6) (p3.l.map Tok.av),.i .i64 p3.i,.b false,.i .i64 p3.e,.i .i64 p3.ln,.i .i64 p3.cl],.cells [.ref (cnt s+3) 0],.cells [d,f2,l],.cells [f2,.b false,.i .i64 0,.i .i64 0,.i .i64 0]]) (clr A (foot l es)) N) (cnt s+6) f2 fs false 0 0 0:=by
    obtain⟨dd,df,q1,q2,q3,q4,q5,q6,q7⟩:=hP
    refine⟨by rw[wa_obj,ex_obj];rfl,⟨df,q2.mono fun a ha=>⟨clr_not (q5 a ha).2,q2.lt ha⟩⟩,by omega⟩
   have hp2:p2.bad=false:=b3 hb
   have hp1:=hE (a3 hp2)
   simp only[go_sem,reduceCtorEq,↓reduceIte,nA,nB,nC,nD,nE,iA,iB,iC,iD,iE,iF,hb,hfz,hP.lowd,hP.lowf,hP.gb.low,hP.onef]
   refine W.step (gbinds_step _ (gexpr_all _) (es.map fun e=>e.b) _ (cnt s+6) f2 fs false 0 0 0 (Nat.lt_succ_self _) (by omega) hGS) ?_
   rintro _ ⟨rs',b',e1,l1,c1,rfl,hr1,hr2⟩
   rw[List.length_map] at hr2
   unfold gob
   have hone:(lst (.st 4) (rs'.map Bnd.av)).cells=[lst (.st 4) (rs'.map Bnd.av)]:=lst_cells
   have hfz2:∃ B,Old s.nxt B s.arr∧∀ u,frz 20000 (.tup [.agg [d,f2,lst (.st 4) (rs'.map Bnd.av)],.agg [.i .i64 0,.i .i64 0,.i .i64 0]]) (wa u (clr A (foot l es)) N)=some (.tup [(Prog.mk ds fs rs').av,flt 0 0 0],wa u B N):=by
    obtain⟨dd,df,q1,q2,q3,q4,q5,q6,q7⟩:=hP
    have r1:=(q1.fz (fun h=>q6 (List.map_eq_nil_iff.1 h))).app (q2.fz (fun h=>q7 (List.map_eq_nil_iff.1 h))) (fun a ha=>by simp;intro hm;exact (q4 a hm).2.1 (toList_lt ha))
    have r2:FzL 2 (clr A (foot l es)) [d,f2,lst (.st 4) (rs'.map Bnd.av)] [lst (.st 5) (ds.map Data.av),lst (.st 5) (fs.map FixT.av),lst (.st 4) (rs'.map Bnd.av)] (dd.toList++df.toList++[]) :=
     (r1.mono fun a ha=>clr_not (by
      rcases List.mem_append.1 ha with h|h
      ·exact (q4 a (toList_lt h)).2.2
      ·exact (q5 a (toList_lt h)).2)).app (FzL.one (lst_scal bnd_finl)).up (by simp)
    refine⟨clr (clr A (foot l es)) (dd.toList++df.toList++[]),Am.clr_old hG.clr_old fun a ha=>?_,fun u=>?_⟩
    ·simp at ha
     rcases ha with h|h
     ·exact (q4 a h).1
     ·exact (q5 a h).1
    ·rw[frz_tup,frzAll_cons,r2.agg (n:=19996)]
     rfl
   obtain⟨B,hB,hfz2⟩:=hfz2
   simp only[go_sem,reduceCtorEq,↓reduceIte,nA,nB,nC,nD,nE,iA,iB,iC,iD,iE,iF,hP.lowd,hP.lowf,hP.gb.low,hP.onef,hP.oned,hone,hfz2]
   repeat' (refine W.ifc (fun d=>?_) (fun d=>?_)<;>simp only[go_sem,reduceCtorEq,↓reduceIte,nA,nB,nC,nD,nE,iA,iB,iC,iD,iE,iF,d,hP.lowd,hP.lowf,hP.gb.low,hP.onef,hP.oned,hone,hfz2])
   ·rw[back_wa hG.clr_old rfl]
    exact⟨⟨[],[],[]⟩,e1,l1,c1,rfl,by simp[Prog.sz],by simp⟩
   ·rw[ex_cut (by simp only[Prog.av,flt,low_tup,lowL_cons,lowL_nil,low_agg,lst_low,low_i,Bool.and_true]),back_wa hB (by simp only[Prog.av,flt,alow_tup,alowL_cons,alowL_nil,alow_agg,lst_alow,alow_i,Bool.and_true])]
    exact⟨⟨ds,fs,rs'⟩,0,0,0,rfl,by simp only[Prog.sz];omega,by simp only;omega⟩
end Go.Am
namespace Go.Am
open Go Go.RowKit
structure Cx where
 m:Nat→Option Nat
 ma:Nat→Option Nat
 cp:Nat→Nat
 az:Nat→Nat
 hc:Nat→Option Nat
mutual
def V (C:Cx) (w:World):AV→Value→Prop
 | .un,u=>u=undef
 | .b x,u=>u=.bool x
 | .i k n,u=>u=.int k n
 | .s l,u=>u=.string ⟨⟨l⟩⟩
 | .nsl,u=>u=.slice none 0 0
 | .np,u=>u=.pointer none
 | .nf,u=>u=.nilFunc
 | .nm,u=>u=.map none
 | .sl el xs,u=>∃ b cap h us,u=.slice (some ⟨b,0,none⟩) xs.length cap∧C.hc b=some h∧xs.length≤cap∧AV.finL xs=true∧us.length=xs.length*el.size∧us.length≤h∧w.rangeAt b 0 us∧VS C w el.size xs us
 | .os a el n,u=>∃ b,C.ma a=some b∧u=.slice (some ⟨b,0,none⟩) n (C.cp a)∧C.az a=el.size∧n≤C.cp a
 | .ref r off,u=>∃ b,C.m r=some b∧u=.pointer (some ⟨b,off,none⟩)
 | .aref a k,u=>∃ b,C.ma a=some b∧u=.pointer (some ⟨b,k,none⟩)
 | .ep cs off,u=>∃ b k h us,u=.pointer (some ⟨b,k+off,none⟩)∧C.hc b=some h∧AV.finL cs=true∧k+us.length≤h∧w.rangeAt b k us∧VL C w cs us
 | .clo f caps,u=>∃ vs,u=.func (.func f) #[] vs∧VT C w caps vs.toList
 | .mp r,u=>∃ b,C.m r=some b∧u=.map (some b)
 | .agg cs,u=>∃ vs,u=.agg vs∧VL C w cs vs.toList
 | .tup cs,u=>∃ vs,u=.tuple vs∧VT C w cs vs.toList
def VL (C:Cx) (w:World):List AV→List Value→Prop
 | [],us=>us=[]
 | x::xs,us=>∃ u us',us=u::us'∧u.oneCell'=true∧V C w x u∧VL C w xs us'
def VT (C:Cx) (w:World):List AV→List Value→Prop
 | [],us=>us=[]
 | x::xs,us=>∃ u us',us=u::us'∧V C w x u∧VT C w xs us'
def VS (C:Cx) (w:World) (sz:Nat):List AV→List Value→Prop
 | [],us=>us=[]
 | x::xs,us=>∃ u us',us=u.cells.toList++us'∧u.cells.size=sz∧V C w x u∧VS C w sz xs us'
end
theorem VL_len {C w}:∀ {cs us},VL C w cs us→us.length=cs.length
 | [],us,h=>by unfold VL at h;subst h;rfl
 | x::xs,us,h=>by
  unfold VL at h
  obtain⟨u,us',rfl,-,-,h⟩:=h
  simp[VL_len h]
theorem VT_len {C w}:∀ {cs us},VT C w cs us→us.length=cs.length
 | [],us,h=>by unfold VT at h;subst h;rfl
 | x::xs,us,h=>by
  unfold VT at h
  obtain⟨u,us',rfl,-,h⟩:=h
  simp[VT_len h]
theorem VL_one {C w}:∀ {cs us},VL C w cs us→∀ u∈us,u.oneCell'=true
 | [],us,h,u,hu=>by unfold VL at h;subst h;cases hu
 | x::xs,us,h,u,hu=>by
  unfold VL at h
  obtain⟨v,us',rfl,h1,-,h⟩:=h
  rcases List.mem_cons.1 hu with rfl|hu
  ·exact h1
  ·exact VL_one h u hu
structure Mv (n:Nat) (C:Cx) (w:World) (C':Cx) (w':World):Prop where
 m:∀ r b,r<n→C.m r=some b→C'.m r=some b
 ma:∀ a b,C.ma a=some b→C'.ma a=some b∧C'.cp a=C.cp a∧C'.az a=C.az a
 hc:∀ b h,C.hc b=some h→C'.hc b=some h∧∀ k,k<h→w'.cell? ⟨b,k,none⟩=w.cell? ⟨b,k,none⟩
theorem Mv.range {n C w C' w'} (h:Mv n C w C' w') {b hh k us} (hb:C.hc b=some hh) (hl:k+us.length≤hh) (hr:w.rangeAt b k us):w'.rangeAt b k us:=fun j v hj=>by
 have:=(List.getElem?_eq_some_iff.1 hj).1
 rw[(h.hc b hh hb).2 _ (by omega)]
 exact hr j v hj
mutual
theorem V_mv {n C w C' w'} (h:Mv n C w C' w'):∀ {x u},AV.low n x=true→V C w x u→V C' w' x u
 | .un,u,_,hv=>hv
 | .b x,u,_,hv=>hv
 | .i k n,u,_,hv=>hv
 | .s l,u,_,hv=>hv
 | .nsl,u,_,hv=>hv
 | .np,u,_,hv=>hv
 | .nf,u,_,hv=>hv
 | .nm,u,_,hv=>hv
 | .sl el xs,u,_,hv=>by
  unfold V at hv ⊢
  obtain⟨b,cap,hh,us,h1,h2,h0,h3,h4,h5,h6,h7⟩:=hv
  exact⟨b,cap,hh,us,h1,(h.hc b hh h2).1,h0,h3,h4,h5,h.range h2 (by omega) h6,VS_fin h h3 h7⟩
 | .os a el k,u,_,hv=>by
  unfold V at hv ⊢
  obtain⟨b,h1,h2,h3,h4⟩:=hv
  obtain⟨q1,q2,q3⟩:=h.ma a b h1
  exact⟨b,q1,by rw[q2];exact h2,by rw[q3];exact h3,by rw[q2];exact h4⟩
 | .ref r off,u,hl,hv=>by
  unfold V at hv ⊢
  unfold AV.low at hl
  obtain⟨b,h1,h2⟩:=hv
  exact⟨b,h.m r b (by simpa using hl) h1,h2⟩
 | .aref a k,u,_,hv=>by
  unfold V at hv ⊢
  obtain⟨b,h1,h2⟩:=hv
  exact⟨b,(h.ma a b h1).1,h2⟩
 | .ep cs off,u,_,hv=>by
  unfold V at hv ⊢
  obtain⟨b,k,hh,us,h1,h2,h3,h4,h5,h6⟩:=hv
  exact⟨b,k,hh,us,h1,(h.hc b hh h2).1,h3,h4,h.range h2 h4 h5,VL_fin h h3 h6⟩
 | .clo f caps,u,hl,hv=>by
  unfold V at hv ⊢
  unfold AV.low at hl
  obtain⟨vs,h1,h2⟩:=hv
  exact⟨vs,h1,VT_mv h hl h2⟩
 | .mp r,u,hl,hv=>by
  unfold V at hv ⊢
  unfold AV.low at hl
  obtain⟨b,h1,h2⟩:=hv
  exact⟨b,h.m r b (by simpa using hl) h1,h2⟩
 | .agg cs,u,hl,hv=>by
  unfold V at hv ⊢
  unfold AV.low at hl
  obtain⟨vs,h1,h2⟩:=hv
  exact⟨vs,h1,VL_mv h hl h2⟩
 | .tup cs,u,hl,hv=>by
  unfold V at hv ⊢
  unfold AV.low at hl
  obtain⟨vs,h1,h2⟩:=hv
  exact⟨vs,h1,VT_mv h hl h2⟩
theorem VL_mv {n C w C' w'} (h:Mv n C w C' w'):∀ {xs us},AV.lowL n xs=true→VL C w xs us→VL C' w' xs us
 | [],us,_,hv=>by unfold VL at hv ⊢;exact hv
 | x::xs,us,hl,hv=>by
  unfold VL at hv ⊢
  unfold AV.lowL at hl
  rw[Bool.and_eq_true] at hl
  obtain⟨u,us',h1,h2,h3,h4⟩:=hv
  exact⟨u,us',h1,h2,V_mv h hl.1 h3,VL_mv h hl.2 h4⟩
theorem VT_mv {n C w C' w'} (h:Mv n C w C' w'):∀ {xs us},AV.lowL n xs=true→VT C w xs us→VT C' w' xs us
 | [],us,_,hv=>by unfold VT at hv ⊢;exact hv
 | x::xs,us,hl,hv=>by
  unfold VT at hv ⊢
  unfold AV.lowL at hl
  rw[Bool.and_eq_true] at hl
  obtain⟨u,us',h1,h3,h4⟩:=hv
  exact⟨u,us',h1,V_mv h hl.1 h3,VT_mv h hl.2 h4⟩
theorem V_fin {n C w C' w'} (h:Mv n C w C' w'):∀ {x u},AV.fin x=true→V C w x u→V C' w' x u
 | .un,u,hf,_=>by cases hf
 | .b x,u,_,hv=>hv
 | .i k n,u,_,hv=>hv
 | .s l,u,_,hv=>hv
 | .nsl,u,_,hv=>hv
 | .np,u,_,hv=>hv
 | .nf,u,_,hv=>hv
 | .nm,u,_,hv=>hv
 | .sl el xs,u,_,hv=>by
  unfold V at hv ⊢
  obtain⟨b,cap,hh,us,h1,h2,h0,h3,h4,h5,h6,h7⟩:=hv
  exact⟨b,cap,hh,us,h1,(h.hc b hh h2).1,h0,h3,h4,h5,h.range h2 (by omega) h6,VS_fin h h3 h7⟩
 | .os a el k,u,hf,_=>by cases hf
 | .ref r off,u,hf,_=>by cases hf
 | .aref a k,u,hf,_=>by cases hf
 | .ep cs off,u,hf,_=>by cases hf
 | .clo f caps,u,hf,_=>by cases hf
 | .mp r,u,hf,_=>by cases hf
 | .agg cs,u,hf,hv=>by
  unfold V at hv ⊢
  unfold AV.fin at hf
  obtain⟨vs,h1,h2⟩:=hv
  exact⟨vs,h1,VL_fin h hf h2⟩
 | .tup cs,u,hf,_=>by cases hf
theorem VL_fin {n C w C' w'} (h:Mv n C w C' w'):∀ {xs us},AV.finL xs=true→VL C w xs us→VL C' w' xs us
 | [],us,_,hv=>by unfold VL at hv ⊢;exact hv
 | x::xs,us,hf,hv=>by
  unfold VL at hv ⊢
  unfold AV.finL at hf
  rw[Bool.and_eq_true] at hf
  obtain⟨u,us',h1,h2,h3,h4⟩:=hv
  exact⟨u,us',h1,h2,V_fin h hf.1 h3,VL_fin h hf.2 h4⟩
theorem VS_fin {n C w C' w' sz} (h:Mv n C w C' w'):∀ {xs us},AV.finL xs=true→VS C w sz xs us→VS C' w' sz xs us
 | [],us,_,hv=>by unfold VS at hv ⊢;exact hv
 | x::xs,us,hf,hv=>by
  unfold VS at hv ⊢
  unfold AV.finL at hf
  rw[Bool.and_eq_true] at hf
  obtain⟨u,us',h1,h2,h3,h4⟩:=hv
  exact⟨u,us',h1,h2,V_fin h hf.1 h3,VS_fin h hf.2 h4⟩
end
mutual
theorem low_le {n m} (h:n≤m):∀ {x},AV.low n x=true→AV.low m x=true
 | .un,_=>rfl
 | .b _,_=>rfl
 | .i _ _,_=>rfl
 | .s _,_=>rfl
 | .nsl,_=>rfl
 | .np,_=>rfl
 | .nf,_=>rfl
 | .nm,_=>rfl
 | .sl _ _,_=>rfl
 | .os _ _ _,_=>rfl
 | .aref _ _,_=>rfl
 | .ep _ _,_=>rfl
 | .ref r _,hl=>by unfold AV.low at hl ⊢;simp only[decide_eq_true_eq] at hl ⊢;omega
 | .mp r,hl=>by unfold AV.low at hl ⊢;simp only[decide_eq_true_eq] at hl ⊢;omega
 | .clo _ cs,hl=>by unfold AV.low at hl ⊢;exact lowL_le h hl
 | .agg cs,hl=>by unfold AV.low at hl ⊢;exact lowL_le h hl
 | .tup cs,hl=>by unfold AV.low at hl ⊢;exact lowL_le h hl
theorem lowL_le {n m} (h:n≤m):∀ {xs},AV.lowL n xs=true→AV.lowL m xs=true
 | [],_=>rfl
 | x::xs,hl=>by
  unfold AV.lowL at hl ⊢
  rw[Bool.and_eq_true] at hl ⊢
  exact⟨low_le h hl.1,lowL_le h hl.2⟩
end
mutual
theorem fin_low:∀ {x},AV.fin x=true→∀ n,AV.low n x=true
 | .un,_,_=>rfl
 | .b _,_,_=>rfl
 | .i _ _,_,_=>rfl
 | .s _,_,_=>rfl
 | .nsl,_,_=>rfl
 | .np,_,_=>rfl
 | .nf,_,_=>rfl
 | .nm,_,_=>rfl
 | .sl _ _,_,_=>rfl
 | .os _ _ _,_,_=>rfl
 | .aref _ _,_,_=>rfl
 | .ep _ _,_,_=>rfl
 | .ref r _,hl,_=>by cases hl
 | .mp r,hl,_=>by cases hl
 | .clo _ cs,hl,_=>by cases hl
 | .agg cs,hl,n=>by unfold AV.fin at hl;unfold AV.low;exact fin_lowL hl n
 | .tup cs,hl,_=>by cases hl
theorem fin_lowL:∀ {xs},AV.finL xs=true→∀ n,AV.lowL n xs=true
 | [],_,_=>rfl
 | x::xs,hl,n=>by
  unfold AV.finL at hl
  unfold AV.lowL
  rw[Bool.and_eq_true] at hl ⊢
  exact⟨fin_low hl.1 n,fin_lowL hl.2 n⟩
end
mutual
theorem V_low {C w n} (hm:∀ r b,C.m r=some b→r<n):∀ {x u},V C w x u→AV.low n x=true
 | .un,_,_=>rfl
 | .b _,_,_=>rfl
 | .i _ _,_,_=>rfl
 | .s _,_,_=>rfl
 | .nsl,_,_=>rfl
 | .np,_,_=>rfl
 | .nf,_,_=>rfl
 | .nm,_,_=>rfl
 | .sl _ _,_,_=>rfl
 | .os _ _ _,_,_=>rfl
 | .aref _ _,_,_=>rfl
 | .ep _ _,_,_=>rfl
 | .ref r _,u,hv=>by unfold V at hv;obtain⟨b,h1,_⟩:=hv;unfold AV.low;simpa using hm r b h1
 | .mp r,u,hv=>by unfold V at hv;obtain⟨b,h1,_⟩:=hv;unfold AV.low;simpa using hm r b h1
 | .clo _ cs,u,hv=>by unfold V at hv;obtain⟨vs,_,h2⟩:=hv;unfold AV.low;exact VT_low hm h2
 | .agg cs,u,hv=>by unfold V at hv;obtain⟨vs,_,h2⟩:=hv;unfold AV.low;exact VL_low hm h2
 | .tup cs,u,hv=>by unfold V at hv;obtain⟨vs,_,h2⟩:=hv;unfold AV.low;exact VT_low hm h2
theorem VL_low {C w n} (hm:∀ r b,C.m r=some b→r<n):∀ {xs us},VL C w xs us→AV.lowL n xs=true
 | [],_,_=>rfl
 | x::xs,us,hv=>by
  unfold VL at hv
  obtain⟨u,us',_,_,h3,h4⟩:=hv
  unfold AV.lowL
  rw[Bool.and_eq_true]
  exact⟨V_low hm h3,VL_low hm h4⟩
theorem VT_low {C w n} (hm:∀ r b,C.m r=some b→r<n):∀ {xs us},VT C w xs us→AV.lowL n xs=true
 | [],_,_=>rfl
 | x::xs,us,hv=>by
  unfold VT at hv
  obtain⟨u,us',_,h3,h4⟩:=hv
  unfold AV.lowL
  rw[Bool.and_eq_true]
  exact⟨V_low hm h3,VT_low hm h4⟩
end
mutual
theorem V_alow {C w n} (hm:∀ a b,C.ma a=some b→a<n):∀ {x u},V C w x u→AV.alow n x=true
 | .un,_,_=>rfl
 | .b _,_,_=>rfl
 | .i _ _,_,_=>rfl
 | .s _,_,_=>rfl
 | .nsl,_,_=>rfl
 | .np,_,_=>rfl
 | .nf,_,_=>rfl
 | .nm,_,_=>rfl
 | .sl _ _,_,_=>rfl
 | .os _ _ _,u,hv=>by unfold V at hv;obtain⟨b,h1,_⟩:=hv;unfold AV.alow;simpa using hm _ b h1
 | .aref _ _,u,hv=>by unfold V at hv;obtain⟨b,h1,_⟩:=hv;unfold AV.alow;simpa using hm _ b h1
 | .ep _ _,_,_=>rfl
 | .ref r _,_,_=>rfl
 | .mp r,_,_=>rfl
 | .clo _ cs,u,hv=>by unfold V at hv;obtain⟨vs,_,h2⟩:=hv;unfold AV.alow;exact VT_alow hm h2
 | .agg cs,u,hv=>by unfold V at hv;obtain⟨vs,_,h2⟩:=hv;unfold AV.alow;exact VL_alow hm h2
 | .tup cs,u,hv=>by unfold V at hv;obtain⟨vs,_,h2⟩:=hv;unfold AV.alow;exact VT_alow hm h2
theorem VL_alow {C w n} (hm:∀ a b,C.ma a=some b→a<n):∀ {xs us},VL C w xs us→AV.alowL n xs=true
 | [],_,_=>rfl
 | x::xs,us,hv=>by
  unfold VL at hv
  obtain⟨u,us',_,_,h3,h4⟩:=hv
  unfold AV.alowL
  rw[Bool.and_eq_true]
  exact⟨V_alow hm h3,VL_alow hm h4⟩
theorem VT_alow {C w n} (hm:∀ a b,C.ma a=some b→a<n):∀ {xs us},VT C w xs us→AV.alowL n xs=true
 | [],_,_=>rfl
 | x::xs,us,hv=>by
  unfold VT at hv
  obtain⟨u,us',_,h3,h4⟩:=hv
  unfold AV.alowL
  rw[Bool.and_eq_true]
  exact⟨V_alow hm h3,VT_alow hm h4⟩
end
structure Nv (n:Nat) (C:Cx) (w:World) (C':Cx):Prop where
 m:C'.m=C.m
 ma:∀ a b,a<n→C.ma a=some b→C'.ma a=some b
 cp:C'.cp=C.cp
 az:C'.az=C.az
 hc:C'.hc=C.hc
mutual
theorem V_nv {n C w C'} (h:Nv n C w C'):∀ {x u},AV.alow n x=true→V C w x u→V C' w x u
 | .un,u,_,hv=>hv
 | .b x,u,_,hv=>hv
 | .i k _,u,_,hv=>hv
 | .s l,u,_,hv=>hv
 | .nsl,u,_,hv=>hv
 | .np,u,_,hv=>hv
 | .nf,u,_,hv=>hv
 | .nm,u,_,hv=>hv
 | .sl el xs,u,_,hv=>by
  unfold V at hv ⊢
  obtain⟨b,cap,hh,us,h1,h2,h0,h3,h4,h5,h6,h7⟩:=hv
  exact⟨b,cap,hh,us,h1,by rw[h.hc];exact h2,h0,h3,h4,h5,h6,VS_nv h h3 h7⟩
 | .os a el k,u,hl,hv=>by
  unfold V at hv ⊢
  unfold AV.alow at hl
  obtain⟨b,h1,h2,h3,h4⟩:=hv
  exact⟨b,h.ma a b (by simpa using hl) h1,by rw[h.cp];exact h2,by rw[h.az];exact h3,by rw[h.cp];exact h4⟩
 | .ref r off,u,_,hv=>by
  unfold V at hv ⊢
  rw[h.m]
  exact hv
 | .aref a k,u,hl,hv=>by
  unfold V at hv ⊢
  unfold AV.alow at hl
  obtain⟨b,h1,h2⟩:=hv
  exact⟨b,h.ma a b (by simpa using hl) h1,h2⟩
 | .ep cs off,u,_,hv=>by
  unfold V at hv ⊢
  obtain⟨b,k,hh,us,h1,h2,h3,h4,h5,h6⟩:=hv
  exact⟨b,k,hh,us,h1,by rw[h.hc];exact h2,h3,h4,h5,VL_nvf h h3 h6⟩
 | .clo f caps,u,hl,hv=>by
  unfold V at hv ⊢
  unfold AV.alow at hl
  obtain⟨vs,h1,h2⟩:=hv
  exact⟨vs,h1,VT_nv h hl h2⟩
 | .mp r,u,hl,hv=>by
  unfold V at hv ⊢
  rw[h.m]
  exact hv
 | .agg cs,u,hl,hv=>by
  unfold V at hv ⊢
  unfold AV.alow at hl
  obtain⟨vs,h1,h2⟩:=hv
  exact⟨vs,h1,VL_nv h hl h2⟩
 | .tup cs,u,hl,hv=>by
  unfold V at hv ⊢
  unfold AV.alow at hl
  obtain⟨vs,h1,h2⟩:=hv
  exact⟨vs,h1,VT_nv h hl h2⟩
theorem VL_nv {n C w C'} (h:Nv n C w C'):∀ {xs us},AV.alowL n xs=true→VL C w xs us→VL C' w xs us
 | [],us,_,hv=>by unfold VL at hv ⊢;exact hv
 | x::xs,us,hl,hv=>by
  unfold VL at hv ⊢
  unfold AV.alowL at hl
  rw[Bool.and_eq_true] at hl
  obtain⟨u,us',h1,h2,h3,h4⟩:=hv
  exact⟨u,us',h1,h2,V_nv h hl.1 h3,VL_nv h hl.2 h4⟩
theorem VT_nv {n C w C'} (h:Nv n C w C'):∀ {xs us},AV.alowL n xs=true→VT C w xs us→VT C' w xs us
 | [],us,_,hv=>by unfold VT at hv ⊢;exact hv
 | x::xs,us,hl,hv=>by
  unfold VT at hv ⊢
  unfold AV.alowL at hl
  rw[Bool.and_eq_true] at hl
  obtain⟨u,us',h1,h3,h4⟩:=hv
  exact⟨u,us',h1,V_nv h hl.1 h3,VT_nv h hl.2 h4⟩
theorem V_nvf {n C w C'} (h:Nv n C w C'):∀ {x u},AV.fin x=true→V C w x u→V C' w x u
 | .un,u,hf,_=>by cases hf
 | .b x,u,_,hv=>hv
 | .i k n,u,_,hv=>hv
 | .s l,u,_,hv=>hv
 | .nsl,u,_,hv=>hv
 | .np,u,_,hv=>hv
 | .nf,u,_,hv=>hv
 | .nm,u,_,hv=>hv
 | .sl el xs,u,_,hv=>by
  unfold V at hv ⊢
  obtain⟨b,cap,hh,us,h1,h2,h0,h3,h4,h5,h6,h7⟩:=hv
  exact⟨b,cap,hh,us,h1,by rw[h.hc];exact h2,h0,h3,h4,h5,h6,VS_nv h h3 h7⟩
 | .os a el k,u,hf,_=>by cases hf
 | .ref r off,u,hf,_=>by cases hf
 | .aref a k,u,hf,_=>by cases hf
 | .ep cs off,u,hf,_=>by cases hf
 | .clo f caps,u,hf,_=>by cases hf
 | .mp r,u,hf,_=>by cases hf
 | .agg cs,u,hf,hv=>by
  unfold V at hv ⊢
  unfold AV.fin at hf
  obtain⟨vs,h1,h2⟩:=hv
  exact⟨vs,h1,VL_nvf h hf h2⟩
 | .tup cs,u,hf,_=>by cases hf
theorem VL_nvf {n C w C'} (h:Nv n C w C'):∀ {xs us},AV.finL xs=true→VL C w xs us→VL C' w xs us
 | [],us,_,hv=>by unfold VL at hv ⊢;exact hv
 | x::xs,us,hf,hv=>by
  unfold VL at hv ⊢
  unfold AV.finL at hf
  rw[Bool.and_eq_true] at hf
  obtain⟨u,us',h1,h2,h3,h4⟩:=hv
  exact⟨u,us',h1,h2,V_nvf h hf.1 h3,VL_nvf h hf.2 h4⟩
theorem VS_nv {n C w C' sz} (h:Nv n C w C'):∀ {xs us},AV.finL xs=true→VS C w sz xs us→VS C' w sz xs us
 | [],us,_,hv=>by unfold VS at hv ⊢;exact hv
 | x::xs,us,hf,hv=>by
  unfold VS at hv ⊢
  unfold AV.finL at hf
  rw[Bool.and_eq_true] at hf
  obtain⟨u,us',h1,h2,h3,h4⟩:=hv
  exact⟨u,us',h1,h2,V_nvf h hf.1 h3,VS_nv h hf.2 h4⟩
end
end Go.Am
namespace Go.Am
open Go
def trC:Value→Option AV
 | .bool b=>some (.b b)
 | .int k n=>some (.i k n)
 | .string s=>some (.s s.data.toList)
 | .slice none n c=>if n=0∧c=0 then some .nsl else none
 | .pointer none=>some .np
 | .nilFunc=>some .nf
 | .map none=>some .nm
 | .func (.func f) first caps=>if first.size=0∧caps.size=0 then some (.clo f []) else none
 | _=>none
def trCs:List Value→Option (List AV)
 | []=>some []
 | v::vs =>
  match trC v,trCs vs with
  | some x,some xs=>some (x::xs)
  | _,_=>none
def trV:Value→Option AV
 | .agg cs=>(trCs cs.toList).map .agg
 | v=>trC v
def trX:Operand→Option Arg
 | .tmp t=>some (.t t)
 | .const v=>(trV v).map .c
 | .func f=>some (.c (.clo f []))
 | .global _=>none
def trXs:List Operand→Option (List Arg)
 | []=>some []
 | x::xs =>
  match trX x,trXs xs with
  | some y,some ys=>some (y::ys)
  | _,_=>none
def trO:Option Operand→Option (Option Arg)
 | none=>some none
 | some x=>(trX x).map some
def trP (place:Nat→Option (Nat × Nat)):List (Nat × Operand)→Option (List (Nat × Nat × Arg))
 | []=>some []
 | (i,x)::ps =>
  match place i,trX x,trP place ps with
  | some (o,n),some y,some qs=>some ((o,n,y)::qs)
  | _,_,_=>none
section
variable (P:Program)
def elOf (t:TypeId):Option El :=
 match P.underlying t,P.info? t with
 | some (.struct _),some i=>some (.st i.size)
 | some (.array _ _),some i=>some (.st i.size)
 | some _,some i=>if i.size=1 then some .one else none
 | _,_=>none
def zOf (t:TypeId):Option (List AV) :=
 match P.info? t with
 | some i =>
  match i.zero with
  | some z=>if z.cells.size=i.size then trCs z.cells.toList else none
  | none=>none
 | none=>none
def zvOf (t:TypeId):Option AV :=
 match P.info? t with
 | some i =>
  match i.zero with
  | some z=>trV z
  | none=>none
 | none=>none
def placeOf (fs:Array Field) (k:Nat):Option (Nat × Nat) :=
 match fs[k]? with
 | some f=>(P.info? f.type).map fun i=>(f.offset,i.size)
 | none=>none
def intsFrom:Nat→List Field→Bool
 | _,[]=>true
 | k,f::fs=>f.name != "_" && f.offset==k&&(match P.underlying f.type with|some (.int .i64)=>true|_=>false)&&intsFrom (k+1) fs
def eqT (t:TypeId):Option Nat :=
 match P.underlying t with
 | some (.struct fs)=>if !P.eqGuardType P.depth t&&!P.stoodInHeld t&&intsFrom P 0 fs.toList&&fs.size != 0 then some fs.size else none
 | _=>none
def trB (b:Builtin) (ts:Array TypeId) (xs:Option (List Arg)) (fz:Bool):Option AOp :=
 match b with
 | .len =>
  match xs,ts[0]? with
  | some [x],some t =>
   match P.underlying t with
   | some .string=>some (.len true x)
   | some (.slice _)=>some (.len false x)
   | _=>none
  | _,_=>none
 | .min =>
  match xs with
  | some [x,y]=>some (.min x y)
  | _=>none
 | .append =>
  match xs,ts[0]?,ts[1]? with
  | some [x,y],some t,some t2 =>
   match P.underlying t,P.underlying t2 with
   | some (.slice e),some (.slice _) =>
    match elOf P e,zOf P e,P.info? e with
    | some el,some _,some i=>if i.bytes≤1000∧0<el.size then some (.app el x y fz) else none
    | _,_,_=>none
   | _,_=>none
  | _,_,_=>none
 | _=>none
def trOp (o:Oper) (fz:Bool):Option AOp :=
 match o.op with
 | .move x=>(trX x).map .mv
 | .assign x=>(trX x).map .mv
 | .pick c a b =>
  match trX c,trX a,trX b with
  | some c,some a,some b=>some (.pick c a b)
  | _,_,_=>none
 | .alloc t=>(zOf P t).map .alloc
 | .box _ x=>(trX x).map (if fz then .box0 else .box)
 | .build t ps =>
  match P.underlying t with
  | some (.struct fs) =>
   match fs.toList.mapM (fun f=>(P.info? f.type).map fun i=>(f.offset,i.size)) with
   | some places =>
    match zOf P t,trP (fun k=>places.toArray[k]?) ps.toList with
    | some z,some ps=>some (.build z ps)
    | _,_=>none
   | none=>none
  | _=>none
 | .buildSlice t len ps =>
  match P.underlying t with
  | some (.slice e) =>
   match elOf P e,zOf P e with
   | some el,some z =>
    match trP (fun i=>some (i*el.size,el.size)) ps.toList with
    | some ps=>if len*el.size≤16777216∧0<el.size∧len≤most then some (.bsl el z len ps) else none
    | none=>none
   | _,_=>none
  | _=>none
 | .load t x =>
  match elOf P t,trX x with
  | some el,some x=>some (.load el x)
  | _,_=>none
 | .store t a x =>
  match P.info? t,trX a,trX x with
  | some i,some a,some x=>some (.store i.size a x fz)
  | _,_,_=>none
 | .nilCheck x=>(trX x).map .nck
 | .binOp op t x y _ =>
  match trX x,trX y,P.underlying t with
  | some x,some y,some (.struct _) =>
   match eqT P t,op with
   | some n,.eql=>some (.eqs n false x y)
   | some n,.neq=>some (.eqs n true x y)
   | _,_=>none
  | some x,some y,some (.pointer _) =>
   match op with
   | .eql=>some (.eqs 0 false x y)
   | .neq=>some (.eqs 0 true x y)
   | _=>none
  | some x,some y,some _=>some (.bin op x y)
  | _,_,_=>none
 | .unOp op _ x=>(trX x).map (.un op)
 | .convert src dst x =>
  match P.underlying src,P.underlying dst with
  | some _,some (.int k)=>(trX x).map (.conv k)
  | _,_=>none
 | .makeFunc (.func f) first caps=>if first.size=0 then (trXs caps.toList).map (.mkf f) else none
 | .makeMap _ none=>some .mkm
 | .makeSlice t l c =>
  match P.underlying t with
  | some (.slice e) =>
   match elOf P e,zOf P e,P.info? e,trX l,trX c with
   | some el,some z,some i,some l,some c=>if i.bytes≤1000∧0<el.size then some (.msl el z l c) else none
   | _,_,_,_,_=>none
  | _=>none
 | .slice t x lo hi none =>
  match P.underlying t,trX x,trO lo,trO hi with
  | some .string,some x,some lo,some hi=>some (.slc true x lo hi)
  | some (.slice e),some x,some lo,some hi=>if (elOf P e).isSome then some (.slc false x lo hi) else none
  | _,_,_,_=>none
 | .fieldAddr t x k =>
  match P.underlying t with
  | some (.struct fs) =>
   match placeOf P fs k,trX x with
   | some (off,n),some x=>if 0<n then some (.fad off x) else none
   | _,_=>none
  | _=>none
 | .field t x k =>
  match P.underlying t with
  | some (.struct fs) =>
   match fs[k]?,trX x with
   | some f,some x=>(elOf P f.type).map fun el=>.fld f.offset el x
   | _,_=>none
  | _=>none
 | .indexAddr t x i =>
  match P.underlying t with
  | some (.slice e) =>
   match elOf P e,trX x,trX i with
   | some el,some x,some i=>some (.iad el x i)
   | _,_,_=>none
  | _=>none
 | .index t x i =>
  match P.underlying t,trX x,trX i with
  | some .string,some x,some i=>some (.idx x i)
  | _,_,_=>none
 | .lookup t m k ok =>
  match P.underlying t with
  | some (.map key e) =>
   match P.underlying key,zvOf P e,trX m,trX k with
   | some .string,some z,some m,some k=>some (.look z m k ok)
   | _,_,_,_=>none
  | _=>none
 | .mapUpdate t m k x =>
  match P.underlying t with
  | some (.map key _) =>
   match P.underlying key,trX m,trX k,trX x with
   | some .string,some m,some k,some x=>some (.upd m k x fz)
   | _,_,_,_=>none
  | _=>none
 | .insert t m k x =>
  match P.underlying t with
  | some (.map key _) =>
   match P.underlying key,trX m,trX k,trX x with
   | some .string,some m,some k,some x=>some (.upd m k x fz)
   | _,_,_,_=>none
  | _=>none
 | .extract x i=>(trX x).map fun x=>.ext x i
 | .call c =>
  match c.callee with
  | .value f =>
   match trX f,trXs c.args.toList with
   | some f,some xs=>some (.call f xs fz)
   | _,_=>none
  | .builtin b=>trB P b c.argTypes (trXs c.args.toList) fz
  | .invoke _ _=>none
 | _=>none
end
theorem trC_ok {v x} (h:trC v=some x) (C:Cx) (w:World):V C w x v∧v.oneCell'=true∧x.cells=[x]∧v.cells = #[v]∧AV.fin x=true∨(V C w x v∧v.oneCell'=true∧x.cells=[x]∧v.cells = #[v]∧∃ f,x=.clo f []):=by
 cases v<;>try (cases h;done)
 case bool b=>injection h with h;subst h;exact .inl ⟨rfl,rfl,rfl,rfl,rfl⟩
 case int k n=>injection h with h;subst h;exact .inl ⟨rfl,rfl,rfl,rfl,rfl⟩
 case string s=>injection h with h;subst h;exact .inl ⟨by cases s;rename_i d;cases d;rfl,rfl,rfl,rfl,rfl⟩
 case pointer p =>
  cases p with
  | some a=>cases h
  | none=>injection h with h;subst h;exact .inl ⟨rfl,rfl,rfl,rfl,rfl⟩
 case slice p n c =>
  cases p with
  | some a=>cases h
  | none =>
   replace h:(if n=0∧c=0 then some AV.nsl else none)=some x:=h
   split at h
   ·rename_i hh
    obtain⟨rfl,rfl⟩:=hh
    injection h with h
    subst h
    exact .inl ⟨rfl,rfl,rfl,rfl,rfl⟩
   ·cases h
 case map p =>
  cases p with
  | some a=>cases h
  | none=>injection h with h;subst h;exact .inl ⟨rfl,rfl,rfl,rfl,rfl⟩
 case func fn first caps =>
  cases fn<;>try (cases h;done)
  rename_i f
  replace h:(if first.size=0∧caps.size=0 then some (AV.clo f []) else none)=some x:=h
  split at h
  ·rename_i hh
   injection h with h
   subst h
   refine .inr ⟨?_,rfl,rfl,rfl,_,rfl⟩
   unfold V
   refine⟨caps,?_,?_⟩
   ·rw[Array.size_eq_zero_iff.1 hh.1]
   ·rw[Array.size_eq_zero_iff.1 hh.2]
    unfold VT
    rfl
  ·cases h
 case nilFunc=>injection h with h;subst h;exact .inl ⟨rfl,rfl,rfl,rfl,rfl⟩
theorem trC_v {v x} (h:trC v=some x) (C:Cx) (w:World):V C w x v∧v.oneCell'=true∧x.cells=[x]∧v.cells = #[v]∧∀ n,AV.low n x=true:=by
 rcases trC_ok h C w with ⟨a,b,c,d,e⟩|⟨a,b,c,d,f,rfl⟩
 ·exact⟨a,b,c,d,fin_low e⟩
 ·exact⟨a,b,c,d,fun _=>rfl⟩
theorem trCs_ok:∀ {vs xs},trCs vs=some xs→∀ (C:Cx) (w:World),VL C w xs vs∧∀ n,AV.lowL n xs=true
 | [],xs,h,C,w=>by injection h with h;subst h;exact⟨by unfold VL;rfl,fun _=>rfl⟩
 | v::vs,xs,h,C,w=>by
  unfold trCs at h
  cases h1:trC v with
  | none=>simp only[h1] at h;cases h
  | some x =>
   cases h2:trCs vs with
   | none=>simp only[h1,h2] at h;cases h
   | some ys =>
    simp only[h1,h2] at h
    injection h with h
    subst h
    obtain⟨a,b,c,d,e⟩:=trC_v h1 C w
    obtain⟨q,ql⟩:=trCs_ok h2 C w
    refine⟨?_,fun n=>by unfold AV.lowL;rw[e n,ql n];rfl⟩
    unfold VL
    exact⟨v,vs,rfl,b,a,q⟩
theorem trV_ok {v x} (h:trV v=some x) (C:Cx) (w:World):V C w x v∧∀ n,AV.low n x=true:=by
 have key:(∃ cs,v=.agg cs)∨trV v=trC v:=by cases v<;>first|exact .inl ⟨_,rfl⟩|exact .inr rfl
 rcases key with ⟨cs,rfl⟩|key
 case inr =>
  rw[key] at h
  obtain⟨a,b,c,d,e⟩:=trC_v h C w
  exact⟨a,e⟩
 replace h:(trCs cs.toList).map AV.agg=some x:=h
 cases h1:trCs cs.toList with
 | none=>rw[h1] at h;cases h
 | some xs =>
  rw[h1] at h
  injection h with h
  subst h
  obtain⟨q,ql⟩:=trCs_ok h1 C w
  exact⟨by unfold V;exact⟨cs,rfl,q⟩,fun n=>by unfold AV.low;exact ql n⟩
def FR (C:Cx) (w:World) (e:Env) (a:Act):Prop:=∀ t x,get e t=some x→V C w x (a.tmps.getD t undef)
theorem ev_ok {C w e a x ax v} (hF:FR C w e a) (hx:trX x=some ax) (h:ax.ev e=some v):V C w v (a.eval x):=by
 cases x with
 | tmp t=>injection hx with hx;subst hx;exact hF t v h
 | const c =>
  replace hx:(trV c).map Arg.c=some ax:=hx
  cases h1:trV c with
  | none=>rw[h1] at hx;cases hx
  | some y =>
   rw[h1] at hx
   injection hx with hx
   subst hx
   injection h with h
   subst h
   exact (trV_ok h1 C w).1
 | global g=>cases hx
 | func f =>
  injection hx with hx
  subst hx
  injection h with h
  subst h
  unfold V
  exact⟨#[],rfl,by unfold VT;rfl⟩
theorem trXs_len:∀ {xs axs},trXs xs=some axs→axs.length=xs.length
 | [],axs,h=>by injection h with h;subst h;rfl
 | x::xs,axs,h=>by
  unfold trXs at h
  cases h1:trX x with
  | none=>simp only[h1] at h;cases h
  | some y =>
   cases h2:trXs xs with
   | none=>simp only[h1,h2] at h;cases h
   | some ys =>
    simp only[h1,h2] at h
    injection h with h
    subst h
    simp[trXs_len h2]
theorem evs_ok {C w e a} (hF:FR C w e a):∀ {xs axs vs},trXs xs=some axs→evs e axs=some vs→VT C w vs (xs.map a.eval)
 | [],axs,vs,hx,h=>by
  injection hx with hx
  subst hx
  injection h with h
  subst h
  unfold VT
  rfl
 | x::xs,axs,vs,hx,h=>by
  unfold trXs at hx
  cases h1:trX x with
  | none=>simp only[h1] at hx;cases hx
  | some y =>
   cases h2:trXs xs with
   | none=>simp only[h1,h2] at hx;cases hx
   | some ys =>
    simp only[h1,h2] at hx
    injection hx with hx
    subst hx
    unfold evs at h
    cases h3:y.ev e with
    | none=>simp only[h3] at h;cases h
    | some v =>
     cases h4:evs e ys with
     | none=>simp only[h3,h4] at h;cases h
     | some us =>
      simp only[h3,h4] at h
      injection h with h
      subst h
      unfold VT
      exact⟨a.eval x,xs.map a.eval,rfl,ev_ok hF h1 h3,evs_ok hF h2 h4⟩
end Go.Am
namespace Go.Am
open Go
variable {P:Program}
theorem run_v {s:Sem Value} {w w':World} {u:Value} (h:s.run P w=.ok u w'):(do pure (Next.value (← s)):Sem Next).run P w=.ok (.value u) w':=by
 simp[h]
theorem V_cells {C w x u} (h:V C w x u):x.cells≠[]→VL C w x.cells u.cells.toList:=by
 intro hne
 cases x<;>try (exact absurd rfl hne)
 case agg cs =>
  unfold V at h
  obtain⟨vs,rfl,h⟩:=h
  exact h
 all_goals
  refine (show VL C w [_] _ from ?_)
  unfold VL
  refine⟨u,[],?_,?_,h,by unfold VL;rfl⟩
  all_goals
   unfold V at h
   first
    | (subst h;rfl)
    | (obtain⟨_,_,rfl,_⟩:=h;rfl)
    | (obtain⟨_,_,rfl⟩:=h;rfl)
    | (obtain⟨_,rfl,_⟩:=h;rfl)
    | (obtain⟨_,_,_,_,rfl,_⟩:=h;rfl)
theorem VL_app {C w}:∀ {xs ys us vs},VL C w xs us→VL C w ys vs→VL C w (xs++ys) (us++vs)
 | [],ys,us,vs,h,k=>by unfold VL at h;subst h;exact k
 | x::xs,ys,us,vs,h,k=>by
  unfold VL at h
  obtain⟨u,us',rfl,h1,h2,h3⟩:=h
  show VL C w (x::(xs++ys)) (u::(us'++vs))
  unfold VL
  exact⟨u,us'++vs,rfl,h1,h2,VL_app h3 k⟩
theorem VL_take {C w}:∀ {xs us} (n:Nat),VL C w xs us→VL C w (xs.take n) (us.take n)
 | [],us,n,h=>by unfold VL at h;subst h;simp;unfold VL;rfl
 | x::xs,us,0,h=>by simp;unfold VL;rfl
 | x::xs,us,n+1,h=>by
  unfold VL at h
  obtain⟨u,us',rfl,h1,h2,h3⟩:=h
  show VL C w (x::xs.take n) (u::us'.take n)
  unfold VL
  exact⟨u,_,rfl,h1,h2,VL_take n h3⟩
theorem VL_drop {C w}:∀ {xs us} (n:Nat),VL C w xs us→VL C w (xs.drop n) (us.drop n)
 | [],us,n,h=>by unfold VL at h;subst h;simp;unfold VL;rfl
 | x::xs,us,0,h=>h
 | x::xs,us,n+1,h=>by
  unfold VL at h
  obtain⟨u,us',rfl,h1,h2,h3⟩:=h
  exact VL_drop n h3
theorem VL_get {C w}:∀ {xs us} {n:Nat} {x},VL C w xs us→xs[n]?=some x→∃ u,us[n]?=some u∧V C w x u∧u.oneCell'=true
 | [],us,n,x,h,hx=>by cases hx
 | y::xs,us,0,x,h,hx=>by
  unfold VL at h
  obtain⟨u,us',rfl,h1,h2,h3⟩:=h
  injection hx with hx
  subst hx
  exact⟨u,rfl,h2,h1⟩
 | y::xs,us,n+1,x,h,hx=>by
  unfold VL at h
  obtain⟨u,us',rfl,h1,h2,h3⟩:=h
  obtain⟨q,h5,h6⟩:=VL_get (n:=n) (x:=x) h3 hx
  exact⟨q,h5,h6⟩
theorem VT_get {C w}:∀ {xs us} {n:Nat} {x},VT C w xs us→xs[n]?=some x→∃ u,us[n]?=some u∧V C w x u
 | [],us,n,x,h,hx=>by cases hx
 | y::xs,us,0,x,h,hx=>by
  unfold VT at h
  obtain⟨u,us',rfl,h2,h3⟩:=h
  injection hx with hx
  subst hx
  exact⟨u,rfl,h2⟩
 | y::xs,us,n+1,x,h,hx=>by
  unfold VT at h
  obtain⟨u,us',rfl,h2,h3⟩:=h
  obtain⟨q,h5,h6⟩:=VT_get (n:=n) (x:=x) h3 hx
  exact⟨q,h5,h6⟩
theorem VL_splice {C w} {xs us:_} {ys vs:_} {n:Nat} (h:VL C w xs us) (k:VL C w ys vs):VL C w (splice xs n ys) (us.take n++vs++us.drop (n+vs.length)):=by
 unfold splice
 rw[VL_len k]
 exact VL_app (VL_app (VL_take n h) k) (VL_drop _ h)
theorem bin_ok {C w x y u v r op t xo yo} (hx:V C w x u) (hy:V C w y v) (h:abin op x y=some r):∃ q,(do eqGuard op t xo yo u v;binOp op t u v:Sem Value).run P w=.ok q w∧V C w r q:=by
 cases x<;>try (cases y<;>cases h;done)
 case i k a =>
  cases y<;>try (cases h;done)
  rename_i k' b
  unfold V at hx hy
  subst hx hy
  unfold abin at h
  dsimp only at h
  split at h
  ·rename_i hk
   subst hk
   cases op<;>first
    | (cases h;done)
    | (injection h with h;subst h;exact⟨_,by simp[eqGuard,binOp,Op.intArith,Op.intCmp];rfl,by unfold V;rfl⟩)
    | (injection h with h;subst h;exact⟨_,by simp[eqGuard,binOp,Op.intArith,Op.intCmp];rfl,by unfold V;simp⟩)
  ·cases h
 case s a =>
  cases y<;>try (cases h;done)
  rename_i b
  unfold V at hx hy
  subst hx hy
  have e1:∀ l:List UInt8,(⟨⟨l⟩⟩:ByteArray).toList=l:=fun l=>by rw[ByteArray.toList_eq]
  cases op<;>try (cases h;done)
  case eql=>injection h with h;subst h;exact⟨_,by simp[eqGuard,binOp,Op.stringOp,e1];rfl,by unfold V;rfl⟩
  case neq=>injection h with h;subst h;exact⟨_,by simp[eqGuard,binOp,Op.stringOp,e1];rfl,by unfold V;rfl⟩
  case add =>
   replace h:(if a.length+b.length≤most then some (AV.s (a++b)) else none)=some r:=h
   split at h
   ·rename_i hl
    injection h with h
    subst h
    have hs:∀ l:List UInt8,(⟨⟨l⟩⟩:ByteArray).size=l.length:=fun l=>rfl
    refine⟨.string ⟨⟨a++b⟩⟩,?_,by unfold V;rfl⟩
    have hm:¬ (IntKind.i64.max<((a.length+b.length:Nat):Int)):=by
     unfold most at hl
     have:(IntKind.i64.max:Int)=9223372036854775807:=by decide
     omega
    have e2:((⟨⟨a⟩⟩:ByteArray)++(⟨⟨b⟩⟩:ByteArray))=⟨⟨a++b⟩⟩:=by
     apply ByteArray.ext
     simp
    simp only[eqGuard_add,binOp,Op.stringOp,hs,e2,Sem.run_bind,Sem.run_pure,Result.andThen_ok]
    rw[if_neg hm]
    rfl
   ·cases h
theorem un_ok {C w x u r op} (hx:V C w x u) (h:aun op x=some r):∃ q,(Op.unary op u).run P w=.ok q w∧V C w r q:=by
 cases op<;>cases x<;>first
  | (cases h;done)
  | (unfold V at hx;subst hx;injection h with h;subst h;exact⟨_,by simp[Op.unary,Op.intArith];try rfl,by unfold V;simp⟩)
theorem min_ok {C w x y u v r ts t} (hx:V C w x u) (hy:V C w y v) (h:amin x y=some r):∃ q,(Builtin.min_ ts t #[u,v]).run P w=.ok q w∧V C w r q:=by
 cases x<;>cases y<;>try (cases h;done)
 unfold V at hx hy
 subst hx hy
 injection h with h
 subst h
 exact⟨_,by simp[Builtin.min_,Builtin.min2,List.foldlM];try rfl,by unfold V;rfl⟩
theorem el_get_ok {C w cs us el n r} (hv:VL C w cs us) (h:El.get el cs n=some r):match el with
  | .one=>∃ q,us[n]?=some q∧V C w r q∧q.oneCell'=true
  | .st k=>n+k≤us.length∧V C w r (.agg ((us.drop n).take k).toArray):=by
 cases el with
 | one=>exact VL_get hv h
 | st k =>
  unfold El.get at h
  dsimp only at h
  split at h
  ·rename_i hl
   injection h with h
   subst h
   refine⟨by rw[VL_len hv];exact hl,?_⟩
   unfold V
   exact⟨_,rfl,by simpa using VL_take k (VL_drop n hv)⟩
  ·cases h
theorem elOf_spec {t el} (h:elOf P t=some el):∃ d i,P.underlying t=some d∧P.info? t=some i∧i.size=el.size∧match el with
  | .one=>(match d with|.struct _=>false|.array _ _=>false|_=>true)=true
  | .st k=>d.isRow=true:=by
 unfold elOf at h
 cases hu:P.underlying t with
 | none=>simp only[hu] at h;cases h
 | some d =>
  cases hi:P.info? t with
  | none=>cases d<;>simp only[hu,hi] at h<;>cases h
  | some i =>
   cases d<;>simp only[hu,hi] at h<;>first
    | (injection h with h;subst h;exact⟨_,i,rfl,rfl,rfl,rfl⟩)
    |(split at h
      · rename_i h1
        injection h with h
        subst h
        exact⟨_,i,rfl,rfl,h1,rfl⟩
      · cases h)
theorem ints_fields {C:Cx} {w:World} {D:Nat}:∀ {fs:List Field} {k:Nat} {xs ys:List AV} {us vs:List Value} {U W:Array Value} {b:Bool},intsFrom P k fs=true→allInts xs=true→allInts ys=true→VL C w xs us→VL C w ys vs →
  U.toList.drop k=us→W.toList.drop k=vs→fs.length=xs.length→aeqs xs ys=some b→(Op.eqFields (D+1) U W fs).run P w=.ok b w
 | [],k,xs,ys,us,vs,U,W,b,hf,hx,hy,hu,hv,eu,ev,hl,he=>by
  cases xs with
  | cons=>simp at hl
  | nil =>
   cases ys with
   | cons=>unfold aeqs at he;cases he
   | nil =>
    injection he with he
    subst he
    simp[Op.eqFields]
 | f::fs,k,xs,ys,us,vs,U,W,b,hf,hx,hy,hu,hv,eu,ev,hl,he=>by
  cases xs with
  | nil=>simp at hl
  | cons x xs =>
   cases x<;>try (cases hx;done)
   rename_i k1 n1
   cases k1<;>try (cases hx;done)
   cases ys with
   | nil=>unfold aeqs at he;cases he
   | cons y ys =>
    cases y<;>try (cases hy;done)
    rename_i k2 n2
    cases k2<;>try (cases hy;done)
    unfold VL at hu hv
    obtain⟨u,us',rfl,-,hu1,hu2⟩:=hu
    obtain⟨v,vs',rfl,-,hv1,hv2⟩:=hv
    unfold V at hu1 hv1
    subst hu1 hv1
    unfold intsFrom at hf
    simp only[Bool.and_eq_true,bne_iff_ne,ne_eq,beq_iff_eq] at hf
    obtain⟨⟨⟨h1,h2⟩,h3⟩,h4⟩:=hf
    have hund:P.underlying f.type=some (.int .i64):=by
     cases hq:P.underlying f.type with
     | none=>rw[hq] at h3;cases h3
     | some d =>
       rw[hq] at h3
       cases d<;>try (cases h3;done)
       rename_i kk
       cases kk<;>first|rfl|cases h3
    have gU:U[k]?=some (.int .i64 n1):=by
     rw[←Array.getElem?_toList]
     have:=congrArg (fun l=>l[0]?) eu
     simpa using this
    have gW:W[k]?=some (.int .i64 n2):=by
     rw[←Array.getElem?_toList]
     have:=congrArg (fun l=>l[0]?) ev
     simpa using this
    have pU:(part f.type U f.offset).run P w=.ok (.int .i64 n1) w:=by
     rw[h2]
     simp[part,isAgg,run_underlying hund,gU]
    have pW:(part f.type W f.offset).run P w=.ok (.int .i64 n2) w:=by
     rw[h2]
     simp[part,isAgg,run_underlying hund,gW]
    have heq:=run_equalIn_int (P:=P) w D f.type .i64 .i64 n1 n2 hund
    have dU:U.toList.drop (k+1)=us':=by
     rw[←List.drop_drop,eu];rfl
    have dW:W.toList.drop (k+1)=vs':=by
     rw[←List.drop_drop,ev];rfl
    replace he:(if IntKind.i64=IntKind.i64 then (if n1==n2 then aeqs xs ys else some false) else none)=some b:=he
    rw[if_pos rfl] at he
    simp only[Op.eqFields]
    rw[if_pos (by simpa using h1)]
    simp only[Sem.run_bind,pU,pW,heq,Result.andThen_ok]
    by_cases hb:(n1==n2)=true
    ·rw[if_pos hb] at he
     have ih:=ints_fields (D:=D) (xs:=xs) (ys:=ys) (k:=k+1) (b:=b) h4 hx hy hu2 hv2 dU dW (by simpa using hl) he
     rw[hb]
     simpa using ih
    ·rw[if_neg hb] at he
     injection he with he
     subst he
     have hb':(n1==n2)=false:=by simpa using hb
     rw[hb']
     simp
theorem eqs_ok {C w x y u v r n neg t xo yo} (ht:eqT P t=some n) (hx:V C w x u) (hy:V C w y v) (h:aeq n neg x y=some r) :
  ∃ q,(do eqGuard (if neg then .neq else .eql) t xo yo u v;binOp (if neg then .neq else .eql) t u v:Sem Value).run P w=.ok q w∧V C w r q:=by
 have hn:n≠0:=by
  intro hn
  subst hn
  unfold eqT at ht
  split at ht
  ·split at ht
   ·rename_i hg
    injection ht with ht
    simp[ht] at hg
   ·cases ht
  ·cases ht
 cases x<;>cases y<;>try (cases h;done)
 case ref.np=>replace h:(if n=0 then _ else none)=some r:=h;rw[if_neg hn] at h;cases h
 case np.np=>replace h:(if n=0 then _ else none)=some r:=h;rw[if_neg hn] at h;cases h
 rename_i xs ys
 unfold V at hx hy
 obtain⟨us,rfl,hx⟩:=hx
 obtain⟨vs,rfl,hy⟩:=hy
 unfold aeq at h
 dsimp only at h
 split at h
 ·rename_i hi
  cases he:aeqs xs ys with
  | none=>rw[he] at h;cases h
  | some b =>
   rw[he] at h
   injection h with h
   subst h
   unfold eqT at ht
   cases hu:P.underlying t with
   | none=>rw[hu] at ht;cases ht
   | some d =>
    cases d<;>try (rw[hu] at ht;cases ht;done)
    rename_i fs
    rw[hu] at ht
    dsimp only at ht
    split at ht
    ·rename_i hg
     injection ht with ht
     simp only[Bool.and_eq_true,Bool.not_eq_true'] at hg
     obtain⟨⟨⟨g1,g2⟩,g3⟩,g4⟩:=hg
     have hfo:P.fieldsOf t=fs:=by unfold Program.fieldsOf;rw[hu]
     have key:=ints_fields (P:=P) (D:=9998) (b:=b) g3 hi.2.1 hi.2.2.1 hx hy (U:=us) (W:=vs) rfl rfl (by rw[hi.1,←ht];simp) he
     have k2:=run_equalIn_struct (P:=P) w 9999 t us vs (by rw[hu,hfo]) g2
     rw[hfo] at k2
     have k3:(Op.equalIn 10000 t (.agg us) (.agg vs)).run P w=.ok b w:=k2.trans key
     cases neg with
     | false =>
       refine⟨.bool b,?_,by unfold V;rfl⟩
       simp only[Sem.run_bind,run_eqGuard_agg w _ t _ _ us vs g1,Result.andThen_ok,if_false,Bool.false_eq_true,run_eql_struct,k3]
     | true =>
       refine⟨.bool !b,?_,by unfold V;rfl⟩
       simp only[Sem.run_bind,run_eqGuard_agg w _ t _ _ us vs g1,Result.andThen_ok,if_true,run_neq_struct,k3]
    ·cases ht
 ·cases h
theorem eqp_run {w:World} {t e:TypeId} {xo yo} (neg:Bool) (p:Option Addr) (ht:P.underlying t=some (.pointer e)) :
  (do eqGuard (if neg then .neq else .eql) t xo yo (.pointer p) (.pointer none);binOp (if neg then .neq else .eql) t (.pointer p) (.pointer none):Sem Value).run P w=.ok (.bool (if neg then !p.isNone else p.isNone)) w:=by
 have hp:P.underlying t=some (.pointer (P.pointee t)):=by
  have:P.pointee t=e:=by unfold Program.pointee;rw[ht]
  rw[this,ht]
 have hg:∀ op,(eqGuard op t xo yo (.pointer p) (.pointer none)).run P w=.ok () w:=fun op=>by cases op<;>simp[eqGuard]
 cases neg with
 | false=>simp only[Sem.run_bind,hg,Result.andThen_ok,Bool.false_eq_true,if_false,run_eql_pointer_nil w t p hp]
 | true=>simp only[Sem.run_bind,hg,Result.andThen_ok,if_true,run_neq_pointer_nil w t p hp]
theorem eqp_ok {C w x y u v r neg t e xo yo} (ht:P.underlying t=some (.pointer e)) (hx:V C w x u) (hy:V C w y v) (h:aeq 0 neg x y=some r) :
  ∃ q,(do eqGuard (if neg then .neq else .eql) t xo yo u v;binOp (if neg then .neq else .eql) t u v:Sem Value).run P w=.ok q w∧V C w r q:=by
 cases x<;>cases y<;>try (cases h;done)
 case agg.agg=>unfold aeq at h;dsimp only at h;rw[if_neg (by simp)] at h;cases h
 case ref.np =>
  unfold V at hx hy
  obtain⟨b,-,rfl⟩:=hx
  subst hy
  injection h with h
  subst h
  exact⟨_,eqp_run neg _ ht,by unfold V;cases neg<;>rfl⟩
 case np.np =>
  unfold V at hx hy
  subst hx hy
  injection h with h
  subst h
  exact⟨_,eqp_run neg _ ht,by unfold V;cases neg<;>rfl⟩
end Go.Am
namespace Go.Am
open Go
variable {P:Program}
theorem set_list {off:Nat}:∀ (l:List Value) (k:Nat) (cs:Array Value),off+k+l.length≤cs.size →
  ((l.zipIdx k).foldl (fun (cs:Array Value) (p:Value × Nat)=>cs.setIfInBounds (off+p.2) p.1) cs).toList=cs.toList.take (off+k)++l++cs.toList.drop (off+k+l.length)
 | [],k,cs,h=>by simp
 | v::l,k,cs,h=>by
  simp only[List.length_cons] at h
  rw[List.zipIdx_cons,List.foldl_cons]
  have ih:=set_list (off:=off) l (k+1) (cs.setIfInBounds (off+k) v) (by simp;omega)
  rw[ih]
  simp only[Array.toList_setIfInBounds,List.length_cons]
  have hk:off+k<cs.toList.length:=by rw[Array.length_toList];omega
  have e1:off+(k+1)=(off+k)+1:=by omega
  have e2:off+(k+1)+l.length=off+k+(l.length+1):=by omega
  rw[e2,List.drop_set_of_lt (by omega),e1,List.take_add_one,List.getElem?_set_self hk,List.take_set_of_le (Nat.le_refl _)]
  simp
theorem fill_one {cs:Array Value} {v:Value} {off:Nat} (h:off+v.cells.size≤cs.size) :
  (v.cells.zipIdx.foldl (fun cs (c,j)=>cs.setIfInBounds (off+j) c) cs).toList=cs.toList.take off++v.cells.toList++cs.toList.drop (off+v.cells.toList.length):=by
 rw[←Array.foldl_toList,Array.toList_zipIdx]
 exact set_list v.cells.toList 0 cs (by simpa using h)
theorem fills_ok {C w e a} (hF:FR C w e a) {place:Nat→Option (Nat × Nat)}:∀ {ps:List (Nat × Operand)} {aps qs} {cs:List AV} {us:Array Value} {cs':List AV},trP place ps=some aps→evp e aps=some qs→VL C w cs us.toList→fills cs qs=some cs' →
  ∃ us':Array Value,Instr.fill place us (ps.map fun p=>(p.1,a.eval p.2))=some us'∧VL C w cs' us'.toList
 | [],aps,qs,cs,us,cs',h1,h2,h3,h4=>by
  injection h1 with h1
  subst h1
  injection h2 with h2
  subst h2
  injection h4 with h4
  subst h4
  exact⟨us,rfl,h3⟩
 | (i,x)::ps,aps,qs,cs,us,cs',h1,h2,h3,h4=>by
  unfold trP at h1
  cases hp:place i with
  | none=>simp only[hp] at h1;cases h1
  | some pl =>
   obtain⟨off,n⟩:=pl
   cases hx:trX x with
   | none=>simp only[hp,hx] at h1;cases h1
   | some y =>
    cases hq:trP place ps with
    | none=>simp only[hp,hx,hq] at h1;cases h1
    | some aqs =>
     simp only[hp,hx,hq] at h1
     injection h1 with h1
     subst h1
     unfold evp at h2
     cases hv:y.ev e with
     | none=>simp only[hv] at h2;cases h2
     | some v =>
      cases hr:evp e aqs with
      | none=>simp only[hv,hr] at h2;cases h2
      | some rs =>
       simp only[hv,hr] at h2
       injection h2 with h2
       subst h2
       unfold fills at h4
       split at h4
       ·rename_i hc
        obtain⟨c1,c0,c2⟩:=hc
        have hV:=ev_ok hF hx hv
        have hVc:=V_cells hV (by intro h0;rw[h0] at c1;simp at c1;omega)
        have hsz:(a.eval x).cells.size=n:=by rw[←Array.length_toList,VL_len hVc,c1]
        have hlen:us.size=cs.length:=by rw[←Array.length_toList,VL_len h3]
        have hone:=fill_one (cs:=us) (v:=a.eval x) (off:=off) (by omega)
        have hsp:=VL_splice (n:=off) h3 hVc
        rw[←hone] at hsp
        obtain⟨us',h5,h6⟩:=fills_ok hF hq hr hsp h4
        refine⟨us',?_,h6⟩
        show Instr.fill place us ((i,a.eval x)::ps.map fun p=>(p.1,a.eval p.2))=some us'
        unfold Instr.fill
        simp only[hp]
        rw[if_neg (by rw[hsz];simp;omega)]
        exact h5
       ·cases h4
theorem zOf_ok {t zs} (h:zOf P t=some zs) (C:Cx) (w:World):∃ i z,P.info? t=some i∧i.zero=some z∧z.cells.size=i.size∧VL C w zs z.cells.toList∧∀ n,AV.lowL n zs=true:=by
 unfold zOf at h
 cases hi:P.info? t with
 | none=>rw[hi] at h;cases h
 | some i =>
  rw[hi] at h
  dsimp only at h
  cases hz:i.zero with
  | none=>rw[hz] at h;cases h
  | some z =>
   rw[hz] at h
   dsimp only at h
   split at h
   ·rename_i hs
    obtain⟨q1,q2⟩:=trCs_ok h C w
    exact⟨i,z,rfl,hz,hs,q1,q2⟩
   ·cases h
theorem map_parts (a:Act) (ps:Array (Nat × Operand)):(ps.map fun (i,x)=>(i,a.eval x)).toList=ps.toList.map fun p=>(p.1,a.eval p.2):=by simp
def OV (C:Cx) (w:World):Option AV→Option Value→Prop
 | none,none=>True
 | some v,some u=>V C w v u
 | _,_=>False
theorem trO_ok {C w e a} (hF:FR C w e a) {x ax r} (h:trO x=some ax) (hr:evo e ax=some r):OV C w r (x.map a.eval):=by
 cases x with
 | none =>
  injection h with h
  subst h
  injection hr with hr
  subst hr
  trivial
 | some x =>
  replace h:(trX x).map some=some ax:=h
  cases hx:trX x with
  | none=>rw[hx] at h;cases h
  | some y =>
   rw[hx] at h
   injection h with h
   subst h
   replace hr:(y.ev e).map some=some r:=hr
   cases hv:y.ev e with
   | none=>rw[hv] at hr;cases hr
   | some v =>
    rw[hv] at hr
    injection hr with hr
    subst hr
    exact ev_ok hF hx hv
end Go.Am
namespace Go.Am
open Go
variable {P:Program}
theorem VS_take {C w sz}:∀ {xs us} (n:Nat),VS C w sz xs us→VS C w sz (xs.take n) (us.take (n*sz))
 | [],us,n,h=>by unfold VS at h;subst h;simp;unfold VS;rfl
 | x::xs,us,0,h=>by simp;unfold VS;rfl
 | x::xs,us,n+1,h=>by
  unfold VS at h
  obtain⟨u,us',rfl,h1,h2,h3⟩:=h
  show VS C w sz (x::xs.take n) _
  unfold VS
  refine⟨u,us'.take (n*sz),?_,h1,h2,VS_take n h3⟩
  rw[show (n+1)*sz=u.cells.toList.length+n*sz by rw[Array.length_toList,h1,Nat.add_mul];omega,List.take_length_add_append]
theorem finL_take:∀ {xs} (n:Nat),AV.finL xs=true→AV.finL (xs.take n)=true
 | [],n,h=>by simp;rfl
 | x::xs,0,h=>by simp;rfl
 | x::xs,n+1,h=>by
  unfold AV.finL at h
  rw[Bool.and_eq_true] at h
  show AV.finL (x::xs.take n)=true
  unfold AV.finL
  rw[Bool.and_eq_true]
  exact⟨h.1,finL_take n h.2⟩
theorem finL_get:∀ {xs} {n:Nat} {x},AV.finL xs=true→xs[n]?=some x→AV.fin x=true
 | [],n,x,h,hx=>by cases hx
 | y::xs,0,x,h,hx=>by
  unfold AV.finL at h
  rw[Bool.and_eq_true] at h
  injection hx with hx
  subst hx
  exact h.1
 | y::xs,n+1,x,h,hx=>by
  unfold AV.finL at h
  rw[Bool.and_eq_true] at h
  exact finL_get (n:=n) h.2 hx
theorem fin_cells:∀ {x},AV.fin x=true→AV.finL x.cells=true:=by
 intro x h
 cases x<;>first
  | (cases h;done)
  | (unfold AV.cells;unfold AV.finL;rw[h];rfl)
  | (unfold AV.fin at h;exact h)
theorem rangeAt_sub {w:World} {b k:Nat} {us:List Value} (h:w.rangeAt b k us) (i n:Nat):w.rangeAt b (k+i) ((us.drop i).take n):=fun j v hj=>by
 rw[List.getElem?_take] at hj
 split at hj
 ·rw[List.getElem?_drop] at hj
  have:=h (i+j) v hj
  rw[show k+i+j=k+(i+j) by omega]
  exact this
 ·cases hj
theorem rangeAt_take {w:World} {b k:Nat} {us:List Value} (h:w.rangeAt b k us) (n:Nat):w.rangeAt b k (us.take n):=fun j v hj=>by
 rw[List.getElem?_take] at hj
 split at hj
 ·exact h j v hj
 ·cases hj
theorem VS_get {C w sz}:∀ {xs us} {n:Nat} {x},VS C w sz xs us→xs[n]?=some x→∃ u,V C w x u∧u.cells.size=sz∧(us.drop (n*sz)).take sz=u.cells.toList
 | [],us,n,x,h,hx=>by cases hx
 | y::xs,us,0,x,h,hx=>by
  unfold VS at h
  obtain⟨u,us',rfl,h1,h2,h3⟩:=h
  injection hx with hx
  subst hx
  refine⟨u,h2,h1,?_⟩
  rw[Nat.zero_mul,List.drop_zero,←h1,←Array.length_toList,List.take_left]
 | y::xs,us,n+1,x,h,hx=>by
  unfold VS at h
  obtain⟨u,us',rfl,h1,h2,h3⟩:=h
  obtain⟨q,h5,h6,h7⟩:=VS_get (n:=n) (x:=x) h3 hx
  refine⟨q,h5,h6,?_⟩
  rw[show (n+1)*sz=u.cells.toList.length+n*sz by rw[Array.length_toList,h1,Nat.add_mul];omega,List.drop_length_add_append]
  exact h7
theorem sb_ok {w:World} {k:IntKind} {n:Int} {y:Nat} {c:BoundsCode} (h:0≤n∧n≤y):(Instr.sliceBound (.int k n) y c).run P w=.ok n.toNat w:=by
 simp[Instr.sliceBound,asIntOf,h]
theorem extract_l (l:List UInt8) (a b:Nat):(⟨⟨l⟩⟩:ByteArray).extract a b=⟨⟨(l.take b).drop a⟩⟩:=by
 apply ByteArray.ext
 simp[ByteArray.data_extract,List.drop_take]
theorem slice_str {C:Cx} {w:World} {t l lo hi r} {ulo uhi:Option Value} (ht:P.underlying t=some .string) (hl:OV C w lo ulo) (hh:OV C w hi uhi)
  (h:aslice true (.s l) lo hi=some r):∃ q,(Instr.sliceAt t (.string ⟨⟨l⟩⟩) ulo uhi none).run P w=.ok q w∧V C w r q:=by
 have hsz:(⟨⟨l⟩⟩:ByteArray).size=l.length:=rfl
 have hfull:(l.take (l.length:Int).toNat)=l:=by simp
 unfold aslice at h
 dsimp only at h
 split at h
 ·rename_i a b ea eb
  split at h
  ·rename_i hc
   injection h with h
   subst h
   refine⟨.string ⟨⟨(l.take b.toNat).drop a.toNat⟩⟩,?_,by unfold V;rfl⟩
   cases lo with
   | none =>
    cases ulo with
    | some x=>exact hl.elim
    | none =>
     injection ea with ea
     subst ea
     cases hi with
     | none =>
      cases uhi with
      | some x=>exact hh.elim
      | none =>
       injection eb with eb
       subst eb
       simp[Instr.sliceAt,Instr.slice,run_underlying ht,Instr.sliceBounds,hsz,extract_l]
     | some v =>
      cases uhi with
      | none=>exact hh.elim
      | some x =>
       cases v<;>try (cases eb;done)
       injection eb with eb
       subst eb
       unfold OV V at hh
       subst hh
       have hb:=sb_ok (P:=P) (w:=w) (k:=by assumption) (n:=by assumption) (y:=l.length) (c:=.sliceAlen) (by omega)
       simp only[Instr.sliceAt,Instr.slice,Sem.run_bind,run_underlying ht,Result.andThen_ok,Instr.sliceBounds,hsz,Sem.run_pure,Option.isSome_none,Bool.false_eq_true,if_false,hb,extract_l]
       rfl
   | some v =>
    cases ulo with
    | none=>exact hl.elim
    | some x =>
     cases v<;>try (cases ea;done)
     injection ea with ea
     subst ea
     unfold OV V at hl
     subst hl
     cases hi with
     | none =>
      cases uhi with
      | some x=>exact hh.elim
      | none =>
       injection eb with eb
       subst eb
       have hb:=sb_ok (P:=P) (w:=w) (k:=by assumption) (n:=by assumption) (y:=l.length) (c:=.sliceB) (by omega)
       simp only[Instr.sliceAt,Instr.slice,Sem.run_bind,run_underlying ht,Result.andThen_ok,Instr.sliceBounds,hsz,Sem.run_pure,Option.isSome_none,Bool.false_eq_true,if_false,hb,extract_l]
       simp
     | some v =>
      cases uhi with
      | none=>exact hh.elim
      | some x =>
       cases v<;>try (cases eb;done)
       injection eb with eb
       subst eb
       unfold OV V at hh
       subst hh
       rename_i k1 n1 k2 n2
       have hb:=sb_ok (P:=P) (w:=w) (k:=k2) (n:=n2) (y:=l.length) (c:=.sliceAlen) (by omega)
       have hb2:=sb_ok (P:=P) (w:=w) (k:=k1) (n:=n1) (y:=n2.toNat) (c:=.sliceB) (by omega)
       simp only[Instr.sliceAt,Instr.slice,Sem.run_bind,run_underlying ht,Result.andThen_ok,Instr.sliceBounds,hsz,Sem.run_pure,Option.isSome_none,Bool.false_eq_true,if_false,hb,hb2,extract_l]
  ·cases h
 ·cases h
theorem slice_sl {C:Cx} {w:World} {t e hi r x ux} {uhi:Value} {el:El} (ht:P.underlying t=some (.slice e)) (hel:elOf P e=some el) (hx:V C w x ux) (hh:V C w hi uhi)
  (h:aslice false x none (some hi)=some r):∃ q,(Instr.sliceAt t ux none (some uhi) none).run P w=.ok q w∧V C w r q:=by
 obtain⟨d,inf,hd,hinf,-,-⟩:=elOf_spec hel
 have hsz:(sizeOf e).run P w=.ok inf.size w:=by simp[sizeOf,typeInfo,hinf]
 have key:∀ (a:Option Addr) (len cap:Nat) (k:IntKind) (n:Int),(∀ ad,a=some ad→ad.add 0=ad)→0≤n→n≤(cap:Int)→(Instr.sliceAt t (.slice a len cap) none (some (.int k n)) none).run P w=.ok (.slice a n.toNat cap) w:=by
  intro a len cap k n ha h1 h2
  have hb:=sb_ok (P:=P) (w:=w) (k:=k) (n:=n) (y:=cap) (c:=.sliceAcap) ⟨h1,h2⟩
  simp only[Instr.sliceAt,Instr.slice,Sem.run_bind,run_underlying ht,Result.andThen_ok,Instr.sliceBounds,Sem.run_pure,Option.isSome_none,Bool.false_eq_true,if_false,if_true,hb,hsz,Nat.zero_mul,Nat.sub_zero]
  cases a with
  | none=>simp
  | some ad=>simp[ha ad rfl]
 have hadd:∀ (b:Nat) (ad:Addr),some (⟨b,0,none⟩:Addr)=some ad→ad.add 0=ad:=fun b ad he=>by injection he with he;subst he;rfl
 cases hi<;>try (cases x<;>cases h;done)
 rename_i k n
 unfold V at hh
 subst hh
 cases x<;>try (cases h;done)
 case nsl =>
  replace h:(if n=0 then some AV.nsl else none)=some r:=h
  split at h
  ·rename_i hn
   subst hn
   injection h with h
   subst h
   unfold V at hx
   subst hx
   exact⟨_,key none 0 0 k 0 (fun _ he=>by cases he) (by omega) (by omega),by unfold V;rfl⟩
  ·cases h
 case sl el' xs =>
  replace h:(if 0≤n∧n≤xs.length then some (AV.sl el' (xs.take n.toNat)) else none)=some r:=h
  split at h
  ·rename_i hn
   injection h with h
   subst h
   unfold V at hx
   obtain⟨b,cap,hh,us,rfl,h2,h0,h3,h4,h5,h6,h7⟩:=hx
   refine⟨_,key _ _ _ k n (hadd b) hn.1 (by omega),?_⟩
   have hm:n.toNat*el'.size≤xs.length*el'.size:=Nat.mul_le_mul_right _ (by omega)
   unfold V
   refine⟨b,cap,hh,us.take (n.toNat*el'.size),?_,h2,?_,finL_take _ h3,?_,?_,rangeAt_take h6 _,VS_take _ h7⟩
   ·rw[List.length_take,Nat.min_eq_left (by omega)]
   ·rw[List.length_take];omega
   ·rw[List.length_take,List.length_take,Nat.min_eq_left (by omega),Nat.min_eq_left (by omega)]
   ·rw[List.length_take];omega
  ·cases h
 case os a el' l =>
  replace h:(if 0≤n∧n≤l then some (AV.os a el' n.toNat) else none)=some r:=h
  split at h
  ·rename_i hn
   injection h with h
   subst h
   unfold V at hx
   obtain⟨b,h1,rfl,h3,h4⟩:=hx
   refine⟨_,key _ _ _ k n (hadd b) hn.1 (by omega),?_⟩
   unfold V
   exact⟨b,h1,rfl,h3,by omega⟩
  ·cases h
theorem iad_ok {C:Cx} {w:World} {t e r x ux i ui} {el:El} (ht:P.underlying t=some (.slice e)) (hel:elOf P e=some el) (hx:V C w x ux) (hi:V C w i ui) (h:aiad el x i=some r) :
  ∃ q,(Instr.indexAt t ux ui).run P w=.ok q w∧V C w r q:=by
 obtain⟨d,inf,hd,hinf,hs,-⟩:=elOf_spec hel
 have hsz:(sizeOf e).run P w=.ok el.size w:=by simp[sizeOf,typeInfo,hinf,hs]
 cases i<;>try (cases x<;>cases h;done)
 rename_i k n
 unfold V at hi
 subst hi
 have key:∀ (b len cap:Nat),0≤n→n<(len:Int)→(Instr.indexAt t (.slice (some ⟨b,0,none⟩) len cap) (.int k n)).run P w=.ok (.pointer (some ⟨b,n.toNat*el.size,none⟩)) w:=by
  intro b len cap h1 h2
  simp only[Instr.indexAt,asIntOf,Sem.run_bind,Sem.run_pure,Result.andThen_ok,run_underlying ht,Sem.run_ite,hsz]
  rw[if_pos ⟨h1,h2⟩,Addr.add_mid]
  simp
 cases x<;>try (cases h;done)
 case sl el' xs =>
  replace h:(if 0≤n∧el'.size=el.size then (xs[n.toNat]?).map fun y=>AV.ep y.cells 0 else none)=some r:=h
  split at h
  ·rename_i hn
   cases hg:xs[n.toNat]? with
   | none=>rw[hg] at h;cases h
   | some y =>
    rw[hg] at h
    injection h with h
    subst h
    have hlt:n.toNat<xs.length:=(List.getElem?_eq_some_iff.1 hg).1
    unfold V at hx
    obtain⟨b,cap,hh,us,rfl,h2,h0,h3,h4,h5,h6,h7⟩:=hx
    refine⟨_,key b _ cap hn.1 (by omega),?_⟩
    obtain⟨u,q1,q2,q3⟩:=VS_get h7 hg
    unfold V
    have hfin:=finL_get h3 hg
    by_cases hc:y.cells=[]
    ·cases y<;>first
      | (cases hc;done)
      | (cases hfin;done)
      | skip
     rename_i cs
     replace hc:cs=[]:=hc
     subst hc
     refine⟨b,n.toNat*el.size,hh,[],by simp,h2,rfl,?_,(fun j v hj=>by cases hj),(by unfold AV.cells;unfold VL;rfl)⟩
     have:n.toNat*el'.size≤xs.length*el'.size:=Nat.mul_le_mul_right _ (by omega)
     rw[←hn.2]
     simp
     omega
    ·have hVc:=V_cells q1 hc
     have hle:n.toNat*el'.size+el'.size≤xs.length*el'.size:=by
      rw[←Nat.succ_mul];exact Nat.mul_le_mul_right _ (by omega)
     refine⟨b,n.toNat*el.size,hh,u.cells.toList,by simp,h2,fin_cells hfin,?_,?_,hVc⟩
     ·rw[Array.length_toList,q2,←hn.2];omega
     ·rw[←q3,←hn.2]
      have:=rangeAt_sub h6 (n.toNat*el'.size) el'.size
      simpa using this
  ·cases h
 case os a el' l =>
  replace h:(if 0≤n∧n<l∧el'.size=el.size then some (AV.aref a (n.toNat*el.size)) else none)=some r:=h
  split at h
  ·rename_i hn
   injection h with h
   subst h
   unfold V at hx
   obtain⟨b,h1,rfl,h3,h4⟩:=hx
   refine⟨_,key b _ _ hn.1 hn.2.1,?_⟩
   unfold V
   exact⟨b,h1,rfl⟩
  ·cases h
theorem pev_ok {o:Oper} {ao:AOp} {fz:Bool} {C:Cx} {w:World} {e:Env} {a:Act} {r:AV} (hT:trOp P o fz=some ao) (hF:FR C w e a) (h:pev ao e=some r) :
  ∃ u,(execOp a.eval o).run P w=.ok (.value u) w∧V C w r u:=by
 obtain⟨dst,op,ty,pos,after,guard⟩:=o
 have two:∀ {x y:Arg} {f:AV→AV→Option AV},((x.ev e).bind fun a=>(y.ev e).bind fun b=>f a b)=some r→∃ p q,x.ev e=some p∧y.ev e=some q∧f p q=some r:=by
  intro x y f hh
  cases hx:x.ev e with
  | none=>rw[hx] at hh;cases hh
  | some p =>
   rw[hx] at hh
   cases hy:y.ev e with
   | none=>rw[hy] at hh;cases hh
   | some q=>rw[hy] at hh;exact⟨p,q,rfl,rfl,hh⟩
 have one:∀ {x:Arg} {f:AV→Option AV},((x.ev e).bind fun a=>f a)=some r→∃ p,x.ev e=some p∧f p=some r:=by
  intro x f hh
  cases hx:x.ev e with
  | none=>rw[hx] at hh;cases hh
  | some p=>rw[hx] at hh;exact⟨p,rfl,hh⟩
 cases op<;>simp only[trOp] at hT<;>try (cases hT;done)
 case move x =>
  cases hx:trX x with
  | none=>rw[hx] at hT;cases hT
  | some y =>
   rw[hx] at hT
   injection hT with hT
   subst hT
   exact⟨a.eval x,rfl,ev_ok hF hx h⟩
 case assign x =>
  cases hx:trX x with
  | none=>rw[hx] at hT;cases hT
  | some y =>
   rw[hx] at hT
   injection hT with hT
   subst hT
   exact⟨a.eval x,rfl,ev_ok hF hx h⟩
 case pick c x y =>
  split at hT<;>try (cases hT;done)
  rename_i ac ax ay hc hx hy
  injection hT with hT
  subst hT
  replace h:((ac.ev e).bind fun c=>(ax.ev e).bind fun a=>(ay.ev e).bind fun b=>apick c a b)=some r:=h
  cases q1:ac.ev e with
  | none=>rw[q1] at h;cases h
  | some vc =>
   rw[q1] at h
   obtain⟨vx,vy,q2,q3,q4⟩:=two h
   have hVc:=ev_ok hF hc q1
   cases vc<;>try (cases q4;done)
   rename_i t
   unfold V at hVc
   injection q4 with q4
   subst q4
   refine⟨if t then a.eval x else a.eval y,?_,?_⟩
   ·simp[execOp,hVc,asBool]
   ·cases t
    ·exact ev_ok hF hy q3
    ·exact ev_ok hF hx q2
 case alloc=>cases hz:zOf P _ with|none=>rw[hz] at hT;cases hT|some z=>rw[hz] at hT;injection hT with hT;subst hT;cases h
 case box t x=>cases hz:trX x with|none=>rw[hz] at hT;cases hT|some z=>rw[hz] at hT;injection hT with hT;subst hT;cases fz<;>cases h
 case build t ps =>
  split at hT<;>try (cases hT;done)
  rename_i fs hu
  split at hT<;>try (cases hT;done)
  rename_i places hpl
  split at hT<;>try (cases hT;done)
  rename_i z aps hz hp
  injection hT with hT
  subst hT
  replace h:((evp e aps).bind fun ps=>(fills z ps).bind fun cs=>some (AV.agg cs))=some r:=h
  cases q1:evp e aps with
  | none=>rw[q1] at h;cases h
  | some qs =>
   rw[q1] at h
   replace h:((fills z qs).bind fun cs=>some (AV.agg cs))=some r:=h
   cases q2:fills z qs with
   | none=>rw[q2] at h;cases h
   | some cs =>
    rw[q2] at h
    injection h with h
    subst h
    obtain⟨i,zv,hi,hzv,hzs,hVz,-⟩:=zOf_ok hz C w
    obtain⟨us,g1,g2⟩:=fills_ok hF hp q1 hVz q2
    refine⟨.agg us,?_,by unfold V;exact⟨us,rfl,g2⟩⟩
    have hb:P.built t (ps.map fun (i,x)=>(i,a.eval x)).toList=some us:=by
     unfold Program.built
     simp only[hi,hu,hzv,hpl,map_parts]
     exact g1
    exact run_v (run_build w t _ us hb)
 case buildSlice t len ps =>
  split at hT<;>try (cases hT;done)
  split at hT<;>try (cases hT;done)
  split at hT<;>try (cases hT;done)
  split at hT<;>try (cases hT;done)
  injection hT with hT
  subst hT
  cases h
 case load t x =>
  split at hT<;>try (cases hT;done)
  injection hT with hT
  subst hT
  cases h
 case store t x y =>
  split at hT<;>try (cases hT;done)
  injection hT with hT
  subst hT
  cases h
 case nilCheck x =>
  cases hx:trX x with
  | none=>rw[hx] at hT;cases hT
  | some y =>
   rw[hx] at hT
   injection hT with hT
   subst hT
   obtain⟨p,q1,q2⟩:=one h
   have hV:=ev_ok hF hx q1
   refine⟨a.eval x,?_,?_⟩
   ·cases p<;>try (cases q2;done)
    all_goals unfold V at hV
    ·obtain⟨b,-,hV⟩:=hV;simp[execOp,hV]
    ·obtain⟨b,-,hV⟩:=hV;simp[execOp,hV]
    ·obtain⟨b,k,hh,us,hV,-⟩:=hV;simp[execOp,hV]
    ·obtain⟨vs,hV,-⟩:=hV;simp[execOp,hV]
   ·cases p<;>try (cases q2;done)
    all_goals (injection q2 with q2;rw[←q2];exact hV)
 case binOp op t x y yt =>
  split at hT<;>try (cases hT;done)
  ·rename_i ax ay hx hy hu
   split at hT<;>try (cases hT;done)
   ·rename_i n hn
    injection hT with hT
    subst hT
    obtain⟨p,q,q1,q2,q3⟩:=two h
    obtain⟨u,g1,g2⟩:=eqs_ok (neg:=false) (xo:=x) (yo:=y) hn (ev_ok hF hx q1) (ev_ok hF hy q2) q3
    exact⟨u,run_v g1,g2⟩
   ·rename_i n hn
    injection hT with hT
    subst hT
    obtain⟨p,q,q1,q2,q3⟩:=two h
    obtain⟨u,g1,g2⟩:=eqs_ok (neg:=true) (xo:=x) (yo:=y) hn (ev_ok hF hx q1) (ev_ok hF hy q2) q3
    exact⟨u,run_v g1,g2⟩
  ·rename_i ax ay ee hx hy hu
   split at hT<;>try (cases hT;done)
   ·injection hT with hT
    subst hT
    obtain⟨p,q,q1,q2,q3⟩:=two h
    obtain⟨u,g1,g2⟩:=eqp_ok (neg:=false) (xo:=x) (yo:=y) hu (ev_ok hF hx q1) (ev_ok hF hy q2) q3
    exact⟨u,run_v g1,g2⟩
   ·injection hT with hT
    subst hT
    obtain⟨p,q,q1,q2,q3⟩:=two h
    obtain⟨u,g1,g2⟩:=eqp_ok (neg:=true) (xo:=x) (yo:=y) hu (ev_ok hF hx q1) (ev_ok hF hy q2) q3
    exact⟨u,run_v g1,g2⟩
  ·rename_i ax ay d hx hy hu
   injection hT with hT
   subst hT
   obtain⟨p,q,q1,q2,q3⟩:=two h
   obtain⟨u,g1,g2⟩:=bin_ok (P:=P) (t:=t) (xo:=x) (yo:=y) (ev_ok hF hx q1) (ev_ok hF hy q2) q3
   exact⟨u,run_v g1,g2⟩
 case unOp op t x =>
  cases hx:trX x with
  | none=>rw[hx] at hT;cases hT
  | some y =>
   rw[hx] at hT
   injection hT with hT
   subst hT
   obtain⟨p,q1,q2⟩:=one h
   obtain⟨u,g1,g2⟩:=un_ok (P:=P) (ev_ok hF hx q1) q2
   exact⟨u,run_v g1,g2⟩
 case convert src d x =>
  split at hT<;>try (cases hT;done)
  rename_i ds k hs hd
  cases hx:trX x with
  | none=>rw[hx] at hT;cases hT
  | some y =>
   rw[hx] at hT
   injection hT with hT
   subst hT
   obtain⟨p,q1,q2⟩:=one h
   have hV:=ev_ok hF hx q1
   cases p<;>try (cases q2;done)
   rename_i k2 n
   injection q2 with q2
   subst q2
   unfold V at hV
   refine⟨.int k (k.wrap n),run_v ?_,by unfold V;rfl⟩
   rw[hV]
   simp[convert,run_underlying hs,run_underlying hd,Conv.intToInt]
 case makeFunc fn first caps =>
  cases fn<;>simp only at hT<;>try (cases hT;done)
  rename_i f
  split at hT<;>try (cases hT;done)
  rename_i h0
  cases hx:trXs caps.toList with
  | none=>rw[hx] at hT;cases hT
  | some ys =>
   rw[hx] at hT
   injection hT with hT
   subst hT
   replace h:((evs e ys).bind fun vs=>some (AV.clo f vs))=some r:=h
   cases q1:evs e ys with
   | none=>rw[q1] at h;cases h
   | some vs =>
    rw[q1] at h
    injection h with h
    subst h
    have hV:=evs_ok hF hx q1
    refine⟨.func (.func f) #[] (caps.map a.eval),?_,?_⟩
    ·have:first = #[]:=Array.size_eq_zero_iff.1 h0
     subst this
     simp[execOp,Instr.makeFunc]
    ·unfold V
     exact⟨_,rfl,by simpa using hV⟩
 case makeMap t rs =>
  cases rs<;>simp only at hT<;>try (cases hT;done)
  injection hT with hT;subst hT;cases h
 case makeSlice t l c =>
  split at hT<;>try (cases hT;done)
  split at hT<;>try (cases hT;done)
  split at hT<;>try (cases hT;done)
  injection hT with hT
  subst hT
  cases h
 case slice t x lo hi mx =>
  cases mx<;>simp only at hT<;>try (cases hT;done)
  split at hT<;>try (cases hT;done)
  ·rename_i ax alo ahi hu hx hlo hhi
   injection hT with hT
   subst hT
   replace h:((ax.ev e).bind fun a=>(evo e alo).bind fun l=>(evo e ahi).bind fun h=>aslice true a l h)=some r:=h
   cases q1:ax.ev e with
   | none=>rw[q1] at h;cases h
   | some p =>
    rw[q1] at h
    replace h:((evo e alo).bind fun l=>(evo e ahi).bind fun h=>aslice true p l h)=some r:=h
    cases q2:evo e alo with
    | none=>rw[q2] at h;cases h
    | some ql =>
     rw[q2] at h
     replace h:((evo e ahi).bind fun h=>aslice true p ql h)=some r:=h
     cases q3:evo e ahi with
     | none=>rw[q3] at h;cases h
     | some qh =>
      rw[q3] at h
      replace h:aslice true p ql qh=some r:=h
      have hV:=ev_ok hF hx q1
      cases p<;>try (cases h;done)
      rename_i l
      unfold V at hV
      obtain⟨u,g1,g2⟩:=slice_str hu (trO_ok hF hlo q2) (trO_ok hF hhi q3) h
      refine⟨u,run_v ?_,g2⟩
      rw[hV]
      exact g1
  ·rename_i ee ax alo ahi hu hx hlo hhi
   split at hT<;>try (cases hT;done)
   rename_i hels
   injection hT with hT
   subst hT
   replace h:((ax.ev e).bind fun a=>(evo e alo).bind fun l=>(evo e ahi).bind fun h=>aslice false a l h)=some r:=h
   cases q1:ax.ev e with
   | none=>rw[q1] at h;cases h
   | some p =>
    rw[q1] at h
    replace h:((evo e alo).bind fun l=>(evo e ahi).bind fun h=>aslice false p l h)=some r:=h
    cases q2:evo e alo with
    | none=>rw[q2] at h;cases h
    | some ql =>
     rw[q2] at h
     replace h:((evo e ahi).bind fun h=>aslice false p ql h)=some r:=h
     cases q3:evo e ahi with
     | none=>rw[q3] at h;cases h
     | some qh =>
      rw[q3] at h
      replace h:aslice false p ql qh=some r:=h
      have hV:=ev_ok hF hx q1
      have hl:=trO_ok hF hlo q2
      have hh:=trO_ok hF hhi q3
      cases ql with
      | some v=>cases p<;>cases h
      | none =>
       cases lo with
       | some y=>exact hl.elim
       | none =>
        cases qh with
        | none=>cases p<;>cases h
        | some v =>
         cases hi with
         | none=>exact hh.elim
         | some y =>
          obtain⟨el,hel⟩:=Option.isSome_iff_exists.1 hels
          obtain⟨u,g1,g2⟩:=slice_sl hu hel hV hh h
          exact⟨u,run_v g1,g2⟩
 case fieldAddr t x k =>
  split at hT<;>try (cases hT;done)
  rename_i fs hu
  split at hT<;>try (cases hT;done)
  rename_i off n ax hp hx
  split at hT<;>try (cases hT;done)
  rename_i hn
  injection hT with hT
  subst hT
  obtain⟨p,q1,q2⟩:=one h
  have hV:=ev_ok hF hx q1
  unfold placeOf at hp
  cases hf:fs[k]? with
  | none=>rw[hf] at hp;cases hp
  | some f =>
   rw[hf] at hp
   dsimp only at hp
   cases hi:P.info? f.type with
   | none=>rw[hi] at hp;cases hp
   | some i =>
    rw[hi] at hp
    injection hp with hp
    injection hp with hp1 hp2
    have hrun:∀ (b o:Nat),(Instr.fieldAt t (.pointer (some ⟨b,o,none⟩)) k).run P w=.ok (.pointer (some ⟨b,o+off,none⟩)) w:=by
     intro b o
     simp only[Instr.fieldAt,Sem.run_bind,run_underlying hu,Result.andThen_ok,hf,Instr.sureAddr,Sem.run_pure,fieldPlace,sizeOf,typeInfo,run_program,hi,Sem.run_ite]
     rw[if_neg (by omega),Addr.add_mid]
     simp[hp1]
    cases p<;>try (cases q2;done)
    all_goals unfold V at hV
    ·obtain⟨b,h1,hV⟩:=hV
     injection q2 with q2
     subst q2
     exact⟨_,run_v (by rw[hV];exact hrun _ _),by unfold V;exact⟨b,h1,rfl⟩⟩
    ·obtain⟨b,h1,hV⟩:=hV
     injection q2 with q2
     subst q2
     exact⟨_,run_v (by rw[hV];exact hrun _ _),by unfold V;exact⟨b,h1,rfl⟩⟩
    ·obtain⟨b,kk,hh,us,hV,h2,h3,h4,h5,h6⟩:=hV
     injection q2 with q2
     subst q2
     exact⟨_,run_v (by rw[hV];exact hrun _ _),by unfold V;exact⟨b,kk,hh,us,by rw[Nat.add_assoc],h2,h3,h4,h5,h6⟩⟩
 case field t x k =>
  split at hT<;>try (cases hT;done)
  rename_i fs hu
  split at hT<;>try (cases hT;done)
  rename_i f ax hf hx
  cases hel:elOf P f.type with
  | none=>rw[hel] at hT;cases hT
  | some el =>
   rw[hel] at hT
   injection hT with hT
   subst hT
   obtain⟨p,q1,q2⟩:=one h
   have hV:=ev_ok hF hx q1
   cases p<;>try (cases q2;done)
   rename_i cs
   replace q2:el.get cs f.offset=some r:=q2
   unfold V at hV
   obtain⟨vs,hV,hL⟩:=hV
   obtain⟨d,inf,hd,hinf,hs,hk⟩:=elOf_spec hel
   have hg:=el_get_ok hL q2
   cases el with
   | one =>
    obtain⟨q,g1,g2,g3⟩:=hg
    refine⟨q,run_v ?_,g2⟩
    rw[hV]
    rw[Array.getElem?_toList] at g1
    cases d<;>first|(cases hk;done)|simp[Instr.field,run_underlying hu,hf,asAgg,part,isAgg,run_underlying hd,g1]
   | st n =>
    obtain⟨g1,g2⟩:=hg
    replace hs:inf.size=n:=hs
    refine⟨_,run_v ?_,g2⟩
    rw[hV]
    have e1:((vs.toList.drop f.offset).take n).toArray=vs.extract f.offset (f.offset+n):=by
     apply Array.ext'
     simp[Array.toList_extract,List.extract_eq_take_drop]
    rw[e1]
    cases d<;>first|(cases hk;done)|simp[Instr.field,run_underlying hu,hf,asAgg,part,isAgg,run_underlying hd,sizeOf,typeInfo,hinf,hs]
 case indexAddr t x i =>
  split at hT<;>try (cases hT;done)
  rename_i ee hu
  split at hT<;>try (cases hT;done)
  rename_i el ax ai hel hx hi
  injection hT with hT
  subst hT
  obtain⟨p,q,q1,q2,q3⟩:=two h
  obtain⟨u,g1,g2⟩:=iad_ok hu hel (ev_ok hF hx q1) (ev_ok hF hi q2) q3
  exact⟨u,run_v g1,g2⟩
 case index t x i =>
  split at hT<;>try (cases hT;done)
  rename_i ax ai hu hx hi
  injection hT with hT
  subst hT
  obtain⟨p,q,q1,q2,q3⟩:=two h
  have hV:=ev_ok hF hx q1
  have hW:=ev_ok hF hi q2
  cases p<;>try (cases q3;done)
  rename_i l
  cases q<;>try (cases q3;done)
  rename_i k n
  replace q3:(if 0≤n then (l[n.toNat]?).map fun c=>AV.i .u8 c.toNat else none)=some r:=q3
  split at q3
  ·rename_i hn
   cases hg:l[n.toNat]? with
   | none=>rw[hg] at q3;cases q3
   | some c =>
    rw[hg] at q3
    injection q3 with q3
    subst q3
    unfold V at hV hW
    refine⟨.int .u8 c.toNat,run_v ?_,by unfold V;rfl⟩
    rw[hV,hW]
    have hgb:(⟨⟨l⟩⟩:ByteArray)[n.toNat]?=some c:=by
     have hlt:n.toNat<l.length:=(List.getElem?_eq_some_iff.1 hg).1
     have hv:l[n.toNat]=c:=(List.getElem?_eq_some_iff.1 hg).2
     rw[getElem?_pos (⟨⟨l⟩⟩:ByteArray) n.toNat (show n.toNat<l.length from hlt),←hv]
     rfl
    simp[Instr.index,asIntOf,run_underlying hu,hn,hgb]
  ·cases q3
 case lookup =>
  split at hT<;>try (cases hT;done)
  split at hT<;>try (cases hT;done)
  all_goals (injection hT with hT;subst hT;cases h)
 case mapUpdate =>
  split at hT<;>try (cases hT;done)
  split at hT<;>try (cases hT;done)
  all_goals (injection hT with hT;subst hT;cases h)
 case insert =>
  split at hT<;>try (cases hT;done)
  split at hT<;>try (cases hT;done)
  all_goals (injection hT with hT;subst hT;cases h)
 case extract x i =>
  cases hx:trX x with
  | none=>rw[hx] at hT;cases hT
  | some y =>
   rw[hx] at hT
   injection hT with hT
   subst hT
   obtain⟨p,q1,q2⟩:=one h
   have hV:=ev_ok hF hx q1
   cases p<;>try (cases q2;done)
   unfold V at hV
   obtain⟨vs,hV,hL⟩:=hV
   obtain⟨u,g1,g2⟩:=VT_get (n:=i) hL q2
   refine⟨u,run_v ?_,g2⟩
   rw[hV]
   rw[Array.getElem?_toList] at g1
   simp[Instr.extract,g1]
 case call c =>
  obtain⟨callee,args,argTypes⟩:=c
  cases callee with
  | invoke=>cases hT
  | value f =>
   dsimp only at hT
   split at hT<;>try (cases hT;done)
   injection hT with hT
   subst hT
   cases h
  | builtin b =>
   dsimp only at hT
   have hlen2:∀ {x y:Arg},trXs args.toList=some [x,y]→∃ p q,args = #[p,q]∧trX p=some x∧trX q=some y:=by
    intro x y hq
    have hl:=trXs_len hq
    obtain⟨l⟩:=args
    match l,hl,hq with
    | [p,q],_,hq =>
     unfold trXs at hq
     cases h1:trX p with
     | none=>simp only[h1] at hq;cases hq
     | some p' =>
      unfold trXs at hq
      cases h2:trX q with
      | none=>simp only[h1,h2] at hq;cases hq
      | some q' =>
       simp only[h1,h2,trXs] at hq
       injection hq with hq
       injection hq with hq1 hq2
       injection hq2 with hq2 _
       subst hq1 hq2
       exact⟨p,q,rfl,h1,h2⟩
   have hlen1:∀ {x:Arg},trXs args.toList=some [x]→∃ p,args = #[p]∧trX p=some x:=by
    intro x hq
    have hl:=trXs_len hq
    obtain⟨l⟩:=args
    match l,hl,hq with
    | [p],_,hq =>
     unfold trXs at hq
     cases h1:trX p with
     | none=>simp only[h1] at hq;cases hq
     | some p' =>
      simp only[h1,trXs] at hq
      injection hq with hq
      injection hq with hq1 _
      subst hq1
      exact⟨p,rfl,h1⟩
   cases b<;>simp only[trB] at hT<;>try (cases hT;done)
   case append =>
    split at hT<;>try (cases hT;done)
    split at hT<;>try (cases hT;done)
    split at hT<;>try (cases hT;done)
    split at hT<;>try (cases hT;done)
    injection hT with hT
    subst hT
    cases h
   case min =>
    split at hT<;>try (cases hT;done)
    rename_i ax ay hxy
    injection hT with hT
    subst hT
    obtain⟨p,q,rfl,hp,hq⟩:=hlen2 hxy
    obtain⟨v1,v2,q1,q2,q3⟩:=two h
    obtain⟨u,g1,g2⟩:=min_ok (P:=P) (ts:=argTypes) (t:=ty) (ev_ok hF hp q1) (ev_ok hF hq q2) q3
    refine⟨u,?_,g2⟩
    simp[execOp,resolve,invoke,builtin,g1]
   case len =>
    split at hT<;>try (cases hT;done)
    rename_i ax t hx ht
    obtain⟨p,rfl,hp⟩:=hlen1 hx
    split at hT<;>try (cases hT;done)
    ·rename_i hu
     injection hT with hT
     subst hT
     obtain⟨v1,q1,q2⟩:=one h
     have hV:=ev_ok hF hp q1
     cases v1<;>try (cases q2;done)
     injection q2 with q2
     subst q2
     unfold V at hV
     rename_i l
     have hsz:(⟨⟨l⟩⟩:ByteArray).size=l.length:=rfl
     refine⟨.int .i64 l.length,?_,by unfold V;rfl⟩
     simp[execOp,resolve,invoke,builtin,Builtin.len_,ht,hV,run_underlying hu,goInt,hsz]
    ·rename_i ee hu
     injection hT with hT
     subst hT
     obtain⟨v1,q1,q2⟩:=one h
     have hV:=ev_ok hF hp q1
     cases v1<;>try (cases q2;done)
     all_goals
      injection q2 with q2
      subst q2
      unfold V at hV
     ·refine⟨.int .i64 0,?_,by unfold V;rfl⟩
      simp[execOp,resolve,invoke,builtin,Builtin.len_,ht,hV,run_underlying hu,goInt]
     ·obtain⟨b,cap,hh,us,hV,-⟩:=hV
      refine⟨_,?_,by unfold V;rfl⟩
      simp[execOp,resolve,invoke,builtin,Builtin.len_,ht,hV,run_underlying hu,goInt]
     ·obtain⟨b,h1,hV,-⟩:=hV
      refine⟨_,?_,by unfold V;rfl⟩
      simp[execOp,resolve,invoke,builtin,Builtin.len_,ht,hV,run_underlying hu,goInt]
end Go.Am
namespace Go.Am
open Go Go.RowKit
variable {P:Program}
def ME (C:Cx) (w:World):List (List UInt8 × AV)→List MapEntry→Prop
 | [],l=>l=[]
 | (k,v)::es,l=>∃ m l',l=m::l'∧m.key=.string ⟨⟨k⟩⟩∧V C w v m.val∧AV.fin v=true∧ME C w es l'
def OR (C:Cx) (w:World):Ob→Nat→Prop
 | .cells cs,b=>∃ us,w.rangeAt b 0 us∧VL C w cs us∧∀ j,w.frozen? ⟨b,j,none⟩=false
 | .map es,b=>∃ l clock,w.heap[b]?=some (.map l clock)∧ME C w es l.toList
def AR (C:Cx) (w:World) (cs:List AV) (b n:Nat):Prop:=∃ us,w.rangeAt b 0 us∧VL C w cs us∧(∀ j,w.frozen? ⟨b,j,none⟩=false)∧(∀ j,j<n→(w.cell? ⟨b,j,none⟩).isSome=true)∧AV.lowL 0 cs=true
def Ob.low (n:Nat):Ob→Bool
 | .cells cs=>AV.lowL n cs
 | .map _=>true
structure Rel (base:Nat) (C:Cx) (s:St) (w:World):Prop where
 szb:base≤w.heap.size
 mlt:∀ r b,C.m r=some b→r<s.objs.length∧b<w.heap.size∧base≤b
 alt:∀ a b,C.ma a=some b→a<s.nxt∧b<w.heap.size∧base≤b
 hlt:∀ b h,C.hc b=some h→b<w.heap.size
 mm:∀ r r' b,C.m r=some b→C.m r'=some b→r=r'
 aa:∀ a a' b,C.ma a=some b→C.ma a'=some b→s.arr a≠none→s.arr a'≠none→a=a'
 mx:∀ r a b,C.m r=some b→C.ma a=some b→s.arr a=none
 mh:∀ r b,C.m r=some b→C.hc b=none
 ah:∀ a b,C.ma a=some b→s.arr a≠none→C.hc b=none
 nx:∀ a,s.nxt≤a→s.arr a=none
 obj:∀ (r:Nat) (o:Ob) b,s.objs[r]?=some o→C.m r=some b→OR C w o b
 ar:∀ a cs b,s.arr a=some cs→C.ma a=some b→AR C w cs b (C.cp a*C.az a)
 clo:∀ (r:Nat) (o:Ob),s.objs[r]?=some o→o.low s.objs.length=true
def Cl (n:Nat) (s:St):Prop:=∀ (r:Nat) (o:Ob),r<n→s.objs[r]?=some o→o.low n=true
structure Stp (base bs:Nat) (C:Cx) (s:St) (w:World) (C':Cx) (s':St) (w':World):Prop where
 rel:Rel base C' s' w'
 mv:Mv s.objs.length C w C' w'
 be:Below base w w'
 ol:s.objs.length≤s'.objs.length
 um:∀ r,r<s.objs.length→C.m r=none→C'.m r=none
 ua:∀ a,a<s.nxt→C.ma a=none→C'.ma a=none
 nx:s.nxt≤s'.nxt
 cl:∀ k,k≤bs→Cl k s→Cl k s'
theorem Mv.refl (n:Nat) (C:Cx) (w:World):Mv n C w C w:=⟨fun _ _ _ h=>h,fun _ _ h=>⟨h,rfl,rfl⟩,fun _ _ h=>⟨h,fun _ _=>rfl⟩⟩
theorem Mv.le {n m C w C' w'} (h:Mv m C w C' w') (hn:n≤m):Mv n C w C' w':=⟨fun r b hr=>h.m r b (by omega),h.ma,h.hc⟩
theorem Mv.trans {n C w C1 w1 C2 w2} (h:Mv n C w C1 w1) (k:Mv n C1 w1 C2 w2):Mv n C w C2 w2 :=
 ⟨fun r b hr hb=>k.m r b hr (h.m r b hr hb),fun a b ha=>by
  obtain⟨h1,h2,h3⟩:=h.ma a b ha
  obtain⟨k1,k2,k3⟩:=k.ma a b h1
  exact⟨k1,k2.trans h2,k3.trans h3⟩,fun b hh hb=>by
  obtain⟨h1,h2⟩:=h.hc b hh hb
  obtain⟨k1,k2⟩:=k.hc b hh h1
  exact⟨k1,fun j hj=>(k2 j hj).trans (h2 j hj)⟩⟩
theorem ME_mv {n C w C' w'} (h:Mv n C w C' w'):∀ {es l},ME C w es l→ME C' w' es l
 | [],l,hm=>by unfold ME at hm ⊢;exact hm
 | (k,v)::es,l,hm=>by
  unfold ME at hm ⊢
  obtain⟨m,l',h1,h2,h3,h4,h5⟩:=hm
  exact⟨m,l',h1,h2,V_fin h h4 h3,h4,ME_mv h h5⟩
theorem lt_heap {w:World} {b j:Nat} {v:Value} (h:w.cell? ⟨b,j,none⟩=some v):b<w.heap.size:=World.block_lt_of_cell? w _ h
theorem cell_same {w w':World} {b:Nat} (h:w'.heap[b]?=w.heap[b]?) (j:Nat):w'.cell? ⟨b,j,none⟩=w.cell? ⟨b,j,none⟩:=World.cell?_of_block (w:=w) (a:=⟨b,j,none⟩) h
theorem frozen_same {w w':World} {b:Nat} (h:w'.heap[b]?=w.heap[b]?) (j:Nat):w'.frozen? ⟨b,j,none⟩=w.frozen? ⟨b,j,none⟩:=World.frozen?_of_block (w:=w) (a:=⟨b,j,none⟩) h
theorem range_same {w w':World} {b k:Nat} {us:List Value} (h:w'.heap[b]?=w.heap[b]?) (hr:w.rangeAt b k us):w'.rangeAt b k us:=fun j v hj=>by rw[cell_same h];exact hr j v hj
theorem OR_mv {n C w C' w' o b} (h:Mv n C w C' w') (hl:o.low n=true) (hb:w'.heap[b]?=w.heap[b]?) (ho:OR C w o b):OR C' w' o b:=by
 cases o with
 | cells cs =>
  obtain⟨us,h1,h2,h3⟩:=ho
  exact⟨us,range_same hb h1,VL_mv h hl h2,fun j=>by rw[frozen_same hb];exact h3 j⟩
 | map es =>
  obtain⟨l,c,h1,h2⟩:=ho
  exact⟨l,c,by rw[hb];exact h1,ME_mv h h2⟩
theorem AR_mv {n C w C' w' cs b k} (h:Mv n C w C' w') (hl:AV.lowL n cs=true) (hb:w'.heap[b]?=w.heap[b]?) (ho:AR C w cs b k):AR C' w' cs b k:=by
 obtain⟨us,h1,h2,h3,h4,h5⟩:=ho
 exact⟨us,range_same hb h1,VL_mv h hl h2,fun j=>by rw[frozen_same hb];exact h3 j,fun j hj=>by rw[cell_same hb];exact h4 j hj,h5⟩
theorem FR_mv {n C w C' w' e a} (h:Mv n C w C' w') (hl:lowE n e=true) (hF:FR C w e a):FR C' w' e a:=by
 intro t x hx
 refine V_mv h ?_ (hF t x hx)
 clear hF
 induction e with
 | nil=>cases hx
 | cons p e ih =>
  obtain⟨k,v⟩:=p
  unfold lowE at hl
  rw[Bool.and_eq_true] at hl
  unfold get at hx
  split at hx
  ·injection hx with hx
   subst hx
   exact hl.1
  ·exact ih hl.2 hx
theorem Rel.low {base C s w x u} (R:Rel base C s w) (h:V C w x u):AV.low s.objs.length x=true:=V_low (fun r b hb=>(R.mlt r b hb).1) h
theorem FR_mv' {base C s w C' w' e a} (R:Rel base C s w) (h:Mv s.objs.length C w C' w') (hF:FR C w e a):FR C' w' e a:=fun t x hx=>V_mv h (R.low (hF t x hx)) (hF t x hx)
theorem Mv.world {base C s w w':_} (R:Rel base C s w) {q:Option Nat} (hq:∀ b,q=some b→C.hc b=none) (hw:∀ k,k<w.heap.size→some k≠q→w'.heap[k]?=w.heap[k]?) (n:Nat):Mv n C w C w' :=
 ⟨fun _ _ _ h=>h,fun _ _ h=>⟨h,rfl,rfl⟩,fun b h hb=>⟨hb,fun k _=>cell_same (hw b (R.hlt b h hb) (fun e=>by have:=hq b e.symm;rw[hb] at this;cases this)) k⟩⟩
theorem aload_ok {base C s w el x ux r t} (R:Rel base C s w) (hel:elOf P t=some el) (hx:V C w x ux) (h:aload s el x=some r):∃ q,(Instr.loadAt t ux).run P w=.ok q w∧V C w r q:=by
 obtain⟨d,inf,hd,hinf,hs,hk⟩:=elOf_spec hel
 have main:∀ (b o:Nat) (cs:List AV) (us:List Value) (k:Nat),w.rangeAt b k us→VL C w cs us→el.get cs o=some r→(Instr.loadAt t (.pointer (some ⟨b,k+o,none⟩))).run P w=.ok (match el with|.one=>us.getD o undef|.st n=>.agg ((us.drop o).take n).toArray) w∧V C w r (match el with|.one=>us.getD o undef|.st n=>.agg ((us.drop o).take n).toArray):=by
  intro b o cs us k hr hL hg
  have hq:=el_get_ok hL hg
  cases el with
  | one =>
   obtain⟨q,g1,g2,g3⟩:=hq
   have e:us.getD o undef=q:=by rw[List.getD_eq_getElem?_getD,g1];rfl
   dsimp only
   rw[e]
   refine⟨?_,g2⟩
   have hc:=hr o q g1
   cases d<;>first|(cases hk;done)|simp[Instr.loadAt,Instr.sureAddr,loadVar,isAgg,run_underlying hd,hc]
  | st n =>
   obtain⟨g1,g2⟩:=hq
   refine⟨?_,g2⟩
   have hc:=rangeAt_sub hr o n
   exact run_loadAt_mid w b (k+o) t _ d hc hd hk (by rw[hinf];simp;rw[hs];show n=_;omega)
 cases x<;>try (cases h;done)
 case ref rr o =>
  unfold V at hx
  obtain⟨b,h1,rfl⟩:=hx
  unfold aload at h
  dsimp only at h
  split at h
  ·rename_i cs hob
   obtain⟨us,g1,g2,g3⟩:=R.obj rr _ b hob h1
   have:=main b o cs us 0 g1 g2 h
   rw[Nat.zero_add] at this
   exact⟨_,this⟩
  ·cases h
 case aref aa o =>
  unfold V at hx
  obtain⟨b,h1,rfl⟩:=hx
  replace h:((s.arr aa).bind fun cs=>el.get cs o)=some r:=h
  cases hob:s.arr aa with
  | none=>rw[hob] at h;cases h
  | some cs =>
   rw[hob] at h
   obtain⟨us,g1,g2,g3,g4⟩:=R.ar aa _ b hob h1
   have:=main b o cs us 0 g1 g2 h
   rw[Nat.zero_add] at this
   exact⟨_,this⟩
 case ep cs o =>
  unfold V at hx
  obtain⟨b,k,hh,us,rfl,h2,h3,h4,h5,h6⟩:=hx
  exact⟨_,main b o cs us k h5 h6 h⟩
end Go.Am
