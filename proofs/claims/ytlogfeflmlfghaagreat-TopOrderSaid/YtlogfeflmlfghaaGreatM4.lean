/- Part 4 of a machine for Go's pure part and of walks on it. -/
import Derived.Test.YtlogfeflmlfghaaGreatM3
open Nat renaming reduceEqDiff → nA,reduceAdd → nB,reduceLeDiff → nC,reduceLT → nD,reduceMul → nE
open Int renaming reduceBEq → iA,reduceBNe → iB,reduceLT → iC,reduceLE → iD,reduceGT → iE,reduceGE → iF
set_option maxRecDepth 100000
set_option linter.unusedSimpArgs false
set_option linter.unusedVariables false
set_option linter.unusedSectionVars false
namespace Go.Am
open Go
theorem parse_all:∀ n,ExprL n∧ClauseL n∧AltL n:=by
 intro n
 induction n with
 | zero=>exact⟨fun p s k ho h=>by omega,fun p s k A0 n0 l es ho h=>by omega,fun p s k ho h=>by omega⟩
 | succ n ih =>
  obtain⟨h1,h2,h3⟩:=ih
  have he:=expr_step _ (operand_step n (aexp_step n h1) (lambda_step n h1) h1 h2 h3)
  have hb:=body_step _ he
  exact⟨he,clause_step _ hb,alt_step _ hb⟩
theorem clause_w {p:PS} {s:St} {k:Nat} {A0:Nat→Option (List AV)} {n0:Nat} {l:AV} {es:List Ent} (ho:obj s k=some p.ob) (hG:GB A0 n0 s.arr s.nxt l es) (hz:bsz es≤300000):W (C F0 X0 34 [.ref k 0,l] s) (ClQ s k p A0 n0 l es):=(parse_all (p.m+1)).2.1 p s k A0 n0 l es ho (by omega) hG hz
end Go.Am
namespace Go.Am
open Go
section
variable {m:Nat} {A0 A A1:Nat→Option (List AV)} {n0 N N1:Nat} {el:El} {v l:AV} {xs:List AV} {D:List Nat} {es:List Ent}
theorem NR.mono2 (h:NR m A0 n0 A N el v xs D) (hold:Old n0 A1 A0) (hA:∀ a∈D,A1 a=A a) (hN:N≤N1):NR m A0 n0 A1 N1 el v xs D:=by
 obtain⟨h0,h1,h2,h3,h4⟩:=h
 refine⟨h0,hold,by omega,fun a ha=>⟨(h3 a ha).1,by have:=(h3 a ha).2;omega⟩,?_⟩
 rcases h4 with h4|⟨a,cs,E,rfl,j1,j2,j3,j4,rfl,j5⟩
 ·exact .inl h4
 ·exact .inr ⟨a,cs,E,rfl,(hA a (List.mem_cons_self ..)).trans j1,j2,j3.mono fun b hb=>hA b (List.mem_cons_of_mem _ hb),j4,rfl,j5⟩
theorem GB.mem_foot (h:GB A0 n0 A N l es) {e} (he:e∈es) {a} (ha:a∈e.D):a∈foot l es:=by
 rcases h.row with ⟨rfl,rfl⟩|⟨b,rfl,-⟩
 ·cases he
 ·exact List.mem_cons_of_mem _ (List.mem_flatMap.2 ⟨e,he,ha⟩)
theorem GB.mono2 (h:GB A0 n0 A N l es) (hold:Old n0 A1 A0) (hA:∀ a∈foot l es,A1 a=A a) (hN:N≤N1):GB A0 n0 A1 N1 l es:=by
 refine⟨hold,by have:=h.le;omega,fun e he=>(h.ents e he).mono2 hold (fun a ha=>hA a (h.mem_foot he ha)) hN,h.dis,?_⟩
 rcases h.row with ⟨rfl,rfl⟩|⟨a,rfl,h1,h2,h3,h4,h5⟩
 ·exact .inl ⟨rfl,rfl⟩
 ·exact .inr ⟨a,rfl,(hA a (List.mem_cons_self ..)).trans h1,h2,by omega,h4,h5⟩
end
def P3 (A0:Nat→Option (List AV)) (n0:Nat) (A:Nat→Option (List AV)) (N:Nat) (d f l:AV) (ds:List Data) (fs:List FixT) (es:List Ent):Prop :=
 ∃ dd df,Gr A N (.st 5) d (ds.map Data.av) dd∧Gr A N (.st 5) f (fs.map FixT.av) df∧GB A0 n0 A N l es∧(∀ a,dd=some a→n0≤a∧df≠some a∧a∉foot l es)∧(∀ a,df=some a→n0≤a∧a∉foot l es)∧(ds=[]→d=.nsl)∧(fs=[]→f=.nsl)
section
variable {A0 A:Nat→Option (List AV)} {n0 N:Nat} {d f l:AV} {ds:List Data} {fs:List FixT} {es:List Ent}
theorem P3.nil:P3 A n0 A n0 .nsl .nsl .nsl [] [] []:=⟨none,none,Gr.nil,Gr.nil,GB.nil,(fun a h=>nomatch h),(fun a h=>nomatch h),fun _=>rfl,fun _=>rfl⟩
theorem P3.gb (h:P3 A0 n0 A N d f l ds fs es):GB A0 n0 A N l es:=by obtain⟨dd,df,h1,h2,h3,-⟩:=h;exact h3
theorem P3.lowd (h:P3 A0 n0 A N d f l ds fs es) (n:Nat):d.low n=true:=by obtain⟨dd,df,h1,h2,h3,-⟩:=h;exact h1.low n
theorem P3.lowf (h:P3 A0 n0 A N d f l ds fs es) (n:Nat):f.low n=true:=by obtain⟨dd,df,h1,h2,h3,-⟩:=h;exact h2.low n
theorem P3.oned (h:P3 A0 n0 A N d f l ds fs es):d.cells=[d]:=by obtain⟨dd,df,h1,h2,h3,-⟩:=h;exact h1.one
theorem P3.onef (h:P3 A0 n0 A N d f l ds fs es):f.cells=[f]:=by obtain⟨dd,df,h1,h2,h3,-⟩:=h;exact h2.one
theorem GB.alow (h:GB A0 n0 A N l es):l.alow N=true:=by
 rcases h.row with ⟨rfl,rfl⟩|⟨a,rfl,h1,h2,h3,-⟩
 ·rfl
 ·exact decide_eq_true h3
theorem P3.alow (h:P3 A0 n0 A N d f l ds fs es):AV.alowL N [d,f,l]=true:=by
 obtain⟨dd,df,h1,h2,h3,-⟩:=h
 simp only[alowL_cons,alowL_nil,h1.alow (fun a ha=>h1.lt ha),h2.alow (fun a ha=>h2.lt ha),h3.alow,Bool.and_true]
theorem P3.pushd {y:Data} (h:P3 A0 n0 A N d f l ds fs es) (hm:ds.length+1≤most) :
  ∃ v' A' N',(∀ u,agrow (newAr (wa u A N) y.av.cells) (.st 5) 1 y.av.cells d=some (v',wa u A' N'))∧P3 A0 n0 A' N' v' f l (ds++[y]) fs es∧N≤N'∧∃ i n,v'=.os i (.st 5) n∧N≤i:=by
 obtain⟨dd,df,h1,h2,h3,h4,h5,h6,h7⟩:=h
 obtain⟨v',A',N',d',k1,k2,k3,k4,k5,k6⟩:=h1.push' y.av.cells rfl y.ele (by simpa using hm)
 have hle:=h3.le
 have hold:Old n0 A' A0:=fun a ha=>(k4 a (by omega) fun h=>by have:=(h4 a h).1;omega).trans (h3.old a ha)
 refine⟨v',A',N',k1,⟨d',df,by rw[List.map_append];exact k2,h2.mono fun a ha=>⟨k4 a (h2.lt ha) fun h=>(h4 a h).2.1 ha,Nat.lt_of_lt_of_le (h2.lt ha) k3⟩,h3.mono2 hold (fun a ha=>k4 a (h3.foot_lt ha).2 fun h=>(h4 a h).2.2 ha) k3,fun a ha=>⟨by have:=k5 a ha;omega,fun h=>by have:=h2.lt h;have:=k5 a ha;omega,fun h=>by have:=(h3.foot_lt h).2;have:=k5 a ha;omega⟩,h5,fun h=>by simp at h,h7⟩,k3,?_⟩
 obtain⟨-,⟨w1,-⟩|⟨i,cs,w1,-,-,-,w2⟩⟩:=k2
 ·exact (k6 w1).elim
 ·exact⟨i,_,w1,k5 i w2⟩
theorem P3.pushf {y:FixT} (h:P3 A0 n0 A N d f l ds fs es) (hm:fs.length+1≤most) :
  ∃ v' A' N',(∀ u,agrow (newAr (wa u A N) y.av.cells) (.st 5) 1 y.av.cells f=some (v',wa u A' N'))∧P3 A0 n0 A' N' d v' l ds (fs++[y]) es∧N≤N'∧∃ i n,v'=.os i (.st 5) n∧N≤i:=by
 obtain⟨dd,df,h1,h2,h3,h4,h5,h6,h7⟩:=h
 obtain⟨v',A',N',d',k1,k2,k3,k4,k5,k6⟩:=h2.push' y.av.cells rfl y.ele (by simpa using hm)
 have hle:=h3.le
 have hold:Old n0 A' A0:=fun a ha=>(k4 a (by omega) fun h=>by have:=(h5 a h).1;omega).trans (h3.old a ha)
 refine⟨v',A',N',k1,⟨dd,d',h1.mono fun a ha=>⟨k4 a (h1.lt ha) fun h=>(h4 a ha).2.1 h,Nat.lt_of_lt_of_le (h1.lt ha) k3⟩,by rw[List.map_append];exact k2,h3.mono2 hold (fun a ha=>k4 a (h3.foot_lt ha).2 fun h=>(h5 a h).2 ha) k3,fun a ha=>⟨(h4 a ha).1,fun h=>by have:=h1.lt ha;have:=k5 a h;omega,(h4 a ha).2.2⟩,fun a ha=>⟨by have:=k5 a ha;omega,fun h=>by have:=(h3.foot_lt h).2;have:=k5 a ha;omega⟩,h6,fun h=>by simp at h⟩,k3,?_⟩
 obtain⟨-,⟨w1,-⟩|⟨i,cs,w1,-,-,-,w2⟩⟩:=k2
 ·exact (k6 w1).elim
 ·exact⟨i,_,w1,k5 i w2⟩
theorem P3.setb {A':Nat→Option (List AV)} {N':Nat} {l':AV} {es':List Ent} (h:P3 A0 n0 A N d f l ds fs es) (hG:GB A0 n0 A' N' l' es') (hN:N≤N') (hA:∀ a,a<N→a∉foot l es→A' a=A a) (hf:∀ a∈foot l' es',a∈foot l es∨N≤a):P3 A0 n0 A' N' d f l' ds fs es':=by
 obtain⟨dd,df,h1,h2,h3,h4,h5,h6,h7⟩:=h
 refine⟨dd,df,h1.mono fun a ha=>⟨hA a (h1.lt ha) (h4 a ha).2.2,Nat.lt_of_lt_of_le (h1.lt ha) hN⟩,h2.mono fun a ha=>⟨hA a (h2.lt ha) (h5 a ha).2,Nat.lt_of_lt_of_le (h2.lt ha) hN⟩,hG,fun a ha=>⟨(h4 a ha).1,(h4 a ha).2.1,fun h=>(hf a h).elim (h4 a ha).2.2 fun h=>by have:=h1.lt ha;omega⟩,fun a ha=>⟨(h5 a ha).1,fun h=>(hf a h).elim (h5 a ha).2 fun h=>by have:=h2.lt ha;omega⟩,h6,h7⟩
theorem P3.fresh (h:P3 A0 n0 A N d f l ds fs es):(ds=[]∧fs=[]∧es=[]∧d=.nsl∧f=.nsl∧l=.nsl)∨AV.alowL n0 [d,f,l]=false:=by
 obtain⟨dd,df,h1,h2,h3,h4,h5,h6,h7⟩:=h
 obtain⟨-,⟨w1,w2,-⟩|⟨i,cs,w1,-,-,-,w2⟩⟩:=h1
 ·obtain⟨-,⟨w3,w4,-⟩|⟨i,cs,w3,-,-,-,w4⟩⟩:=h2
  ·rcases h3.row with ⟨w5,w6⟩|⟨a,w5,-,w6,-⟩
   ·exact .inl ⟨by simpa using w2,by simpa using w4,w6,w1,w3,w5⟩
   ·refine .inr ?_
    have:l.alow n0=false:=by rw[w5,alow_os];exact decide_eq_false (by omega)
    simp only[alowL_cons,this,Bool.false_and,Bool.and_false]
  ·refine .inr ?_
   have:f.alow n0=false:=by rw[w3,alow_os];exact decide_eq_false (by have:=(h5 i w4).1;omega)
   simp only[alowL_cons,this,Bool.false_and,Bool.and_false]
 ·refine .inr ?_
  have:d.alow n0=false:=by rw[w1,alow_os];exact decide_eq_false (by have:=(h4 i w2).1;omega)
  simp only[alowL_cons,this,Bool.false_and]
end
theorem back_box {s s2:St} {v:AV} {r:Nat} {o:Ob} (h:obj s2 r=some o) (h1:o.alow s.nxt=false) (h2:∀ o',obj s r=some o'→o'.alow s.nxt=true):back s v s2=s2:=back_ob h h1 fun hh=>by rw[h2 o hh] at h1;cases h1
end Go.Am
namespace Go.Am
open Go
def tsz (ds:List Data) (fs:List FixT) (es:List Ent):Nat:=(ds.map Data.sz).sum+fs.length+bsz es
def TopQ (s:St) (k r:Nat) (p:PS) (A0:Nat→Option (List AV)) (n0:Nat) (ds:List Data) (fs:List FixT) (es:List Ent) (q:AV × St):Prop :=
 ∃ (p':PS) (d' f' l':AV) (ds':List Data) (fs':List FixT) (es':List Ent) (A':Nat→Option (List AV)) (N':Nat),q=(.tup [],wa (setOb (setOb s k p'.ob) r (.cells [d',f',l'])) A' N')∧P3 A0 n0 A' N' d' f' l' ds' fs' es'∧p.le p'∧p'.m≤p.m - 1∧tsz ds' fs' es'+20*p'.m≤tsz ds fs es+20*p.m∧(p'.bad=false→es'.length+p'.w≤es.length+p.w)∧s.nxt≤N'∧(AV.alowL s.nxt [d',f',l']=false∨∃ a,a<s.nxt∧A' a≠s.arr a)
theorem back_out {s:St} {k r:Nat} {u f l u' f' l':AV} {p:PS} {A':Nat→Option (List AV)} {N':Nat} {v:AV} (hr:obj s r=some (.cells [u,f,l])) (ha:AV.alowL s.nxt [u,f,l]=true) (h:AV.alowL s.nxt [u',f',l']=false∨∃ a,a<s.nxt∧A' a≠s.arr a):back s v (wa (setOb (setOb s k p.ob) r (.cells [u',f',l'])) A' N')=wa (setOb (setOb s k p.ob) r (.cells [u',f',l'])) A' N':=by
 rcases h with h|⟨a,h1,h2⟩
 ·exact back_box (r:=r) (o:=.cells [u',f',l']) (obj_set (by rw[cnt_set];exact obj_lt hr)) h fun o' hh=>by rw[hr] at hh;injection hh with hh;subst hh;exact ha
 ·exact back_ch h1 h2
theorem alow_hi1 {n i m:Nat} {el:El} {f l:AV} (h:n≤i):AV.alowL n [.os i el m,f,l]=false:=by
 have:AV.alow n (.os i el m)=false:=by rw[alow_os];exact decide_eq_false (by omega)
 simp only[alowL_cons,this,Bool.false_and]
theorem alow_hi2 {n i m:Nat} {el:El} {u l:AV} (h:n≤i):AV.alowL n [u,.os i el m,l]=false:=by
 have:AV.alow n (.os i el m)=false:=by rw[alow_os];exact decide_eq_false (by omega)
 simp only[alowL_cons,this,Bool.false_and,Bool.and_false]
theorem alow_hi3 {n i m:Nat} {el:El} {u f:AV} (h:n≤i):AV.alowL n [u,f,.os i el m]=false:=by
 have:AV.alow n (.os i el m)=false:=by rw[alow_os];exact decide_eq_false (by omega)
 simp only[alowL_cons,this,Bool.false_and,Bool.and_false]
theorem top_w {p:PS} {s:St} {k r:Nat} {A0:Nat→Option (List AV)} {n0:Nat} {u f l:AV} {ds:List Data} {fs:List FixT} {es:List Ent} (ho:obj s k=some p.ob) (hr:obj s r=some (.cells [u,f,l])) (hkr:k≠r) (hP:P3 A0 n0 s.arr s.nxt u f l ds fs es) (hz:tsz ds fs es≤300000) (hb:p.bad=false):W (C F0 X0 14 [.ref k 0,.ref r 0] s) (TopQ s k r p A0 n0 ds fs es):=by
 have hk:=obj_lt ho
 have hkr':=obj_lt hr
 have hmo:=PS.m_ok hb
 have hd1:=hP.oned
 have hf1:=hP.onef
 have hl1:=hP.gb.one
 have hG:=hP.gb
 have hz0:=hz
 unfold tsz at hz
 have hdl:=Data.szs_len ds
 have hexr:∀ x l',obj (ex (setOb s k x) l') r=some (.cells [u,f,l]):=fun x l'=>by rw[ex_old (by rw[cnt_set];exact hkr'),obj_set' hkr];exact hr
 have hexr2:∀ x,obj (setOb s k x) r=some (.cells [u,f,l]):=fun x=>by rw[obj_set' hkr];exact hr
 have hone:∀ i el n,AV.cells (.os i el n)=[.os i el n]:=fun _ _ _=>rfl
 rw[w_call (f:=14) rfl]
 simp only[go_sem,reduceCtorEq,↓reduceIte,nA,nB,nC,nD,nE,iA,iB,iC,iD,iE,iF,hk,hkr']
 repeat' (first
   | (refine W.ifc (fun d=>?_) (fun d=>?_)<;>(try have dl:=PS.is_lv d)<;>(try have dl:=PS.isk_lv d (by decide))<;>(try have dl:=a1 d)<;>(try have dl:=PS.peek_lv d (by decide))<;>(try have dm:=PS.m_ok d)<;>(try have dm:=PS.m_bad d)<;>simp only[go_sem,reduceCtorEq,↓reduceIte,nA,nB,nC,nD,nE,iA,iB,iC,iD,iE,iF,d,hk,Bool.true_or,Bool.false_or,Bool.false_and,Bool.true_and,hkr',hexr,hexr2,hr,hP.lowd,hP.lowf,hG.low,hd1,hf1,hl1])
   | (refine W.step (is_w _ (by simp only[go_sem,hk,ho]<;>rfl)) ?_;rintro _ rfl;simp only[go_sem,reduceCtorEq,↓reduceIte,nA,nB,nC,nD,nE,iA,iB,iC,iD,iE,iF,hk,hkr',hexr,hexr2,hr,hP.lowd,hP.lowf,hG.low,hd1,hf1,hl1])
   | (refine W.step (isk_w _ (by simp only[go_sem,hk,ho]<;>rfl)) ?_;rintro _ rfl;simp only[go_sem,reduceCtorEq,↓reduceIte,nA,nB,nC,nD,nE,iA,iB,iC,iD,iE,iF,hk,hkr',hexr,hexr2,hr,hP.lowd,hP.lowf,hG.low,hd1,hf1,hl1])
   | (refine W.step (peek_w (by simp only[go_sem,hk,ho]<;>rfl)) ?_;rintro _ rfl;simp only[go_sem,reduceCtorEq,↓reduceIte,nA,nB,nC,nD,nE,iA,iB,iC,iD,iE,iF,hk,hkr',hexr,hexr2,hr,hP.lowd,hP.lowf,hG.low,hd1,hf1,hl1])
   | (refine W.step (next_w (by simp only[go_sem,hk,ho]<;>rfl)) ?_;rintro _ ⟨p2,rfl,a1,a2,a3⟩;simp only[go_sem,reduceCtorEq,↓reduceIte,nA,nB,nC,nD,nE,iA,iB,iC,iD,iE,iF,hk,hkr',hexr,hexr2,hr,hP.lowd,hP.lowf,hG.low,hd1,hf1,hl1])
   | (refine W.step (minus_w (by simp only[go_sem,hk,ho]<;>rfl)) ?_;rintro _ ⟨p2,rfl,a1,a2,a3⟩;simp only[go_sem,reduceCtorEq,↓reduceIte,nA,nB,nC,nD,nE,iA,iB,iC,iD,iE,iF,hk,hkr',hexr,hexr2,hr,hP.lowd,hP.lowf,hG.low,hd1,hf1,hl1])
   | (refine W.step (plain_w (by simp only[go_sem,hk,ho]<;>rfl)) ?_;rintro _ ⟨p2,n2,l2,c2,rfl,a1,a2⟩;simp only[go_sem,reduceCtorEq,↓reduceIte,nA,nB,nC,nD,nE,iA,iB,iC,iD,iE,iF,hk,hkr',hexr,hexr2,hr,hP.lowd,hP.lowf,hG.low,hd1,hf1,hl1])
   | (refine W.step (number_w (by simp only[go_sem,hk,ho]<;>rfl)) ?_;rintro _ ⟨p2,n2,l2,c2,rfl,a1,a2⟩;simp only[go_sem,reduceCtorEq,↓reduceIte,nA,nB,nC,nD,nE,iA,iB,iC,iD,iE,iF,hk,hkr',hexr,hexr2,hr,hP.lowd,hP.lowf,hG.low,hd1,hf1,hl1])
   | (refine W.step (ahead_w _ _ (by simp only[go_sem,hk,ho]<;>rfl)) ?_;rintro _ ⟨b2,rfl,a1⟩;simp only[go_sem,reduceCtorEq,↓reduceIte,nA,nB,nC,nD,nE,iA,iB,iC,iD,iE,iF,hk,hkr',hexr,hexr2,hr,hP.lowd,hP.lowf,hG.low,hd1,hf1,hl1])
   | (refine W.step (pattern_w (by simp only[go_sem,hk,ho]<;>rfl)) ?_;rintro _ ⟨b2,rfl,a1⟩;simp only[go_sem,reduceCtorEq,↓reduceIte,nA,nB,nC,nD,nE,iA,iB,iC,iD,iE,iF,hk,hkr',hexr,hexr2,hr,hP.lowd,hP.lowf,hG.low,hd1,hf1,hl1])
   | (refine W.step (argument_w (by simp only[go_sem,hk,ho]<;>rfl)) ?_;rintro _ ⟨b2,rfl,a1⟩;simp only[go_sem,reduceCtorEq,↓reduceIte,nA,nB,nC,nD,nE,iA,iB,iC,iD,iE,iF,hk,hkr',hexr,hexr2,hr,hP.lowd,hP.lowf,hG.low,hd1,hf1,hl1])
   | (refine W.step (atomic_w (by simp only[go_sem,hk,ho]<;>rfl)) ?_;rintro _ ⟨b2,rfl,a1⟩;simp only[go_sem,reduceCtorEq,↓reduceIte,nA,nB,nC,nD,nE,iA,iB,iC,iD,iE,iF,hk,hkr',hexr,hexr2,hr,hP.lowd,hP.lowf,hG.low,hd1,hf1,hl1])
   | (refine W.step (operator_w (by simp only[go_sem,hk,ho]<;>rfl)) ?_;rintro _ ⟨b2,rfl,a1⟩;simp only[go_sem,reduceCtorEq,↓reduceIte,nA,nB,nC,nD,nE,iA,iB,iC,iD,iE,iF,hk,hkr',hexr,hexr2,hr,hP.lowd,hP.lowf,hG.low,hd1,hf1,hl1])
   | (refine W.step (text_w _ (by simp only[go_sem,hk,ho]<;>rfl)) ?_;rintro _ ⟨p2,x2,rfl,a1,a2,a3⟩;simp only[go_sem,reduceCtorEq,↓reduceIte,nA,nB,nC,nD,nE,iA,iB,iC,iD,iE,iF,hk,hkr',hexr,hexr2,hr,hP.lowd,hP.lowf,hG.low,hd1,hf1,hl1])
   | (refine W.step (want_w _ (by decide) (by simp only[go_sem,hk,ho]<;>rfl)) ?_;rintro _ ⟨p2,x2,rfl,a1,a2,a3⟩;simp only[go_sem,reduceCtorEq,↓reduceIte,nA,nB,nC,nD,nE,iA,iB,iC,iD,iE,iF,hk,hkr',hexr,hexr2,hr,hP.lowd,hP.lowf,hG.low,hd1,hf1,hl1])
   | (refine W.step (fails_w _ (by simp only[go_sem,hk,ho]<;>rfl)) ?_;rintro _ ⟨p2,rfl,a1,a2,a3,a4⟩;simp only[go_sem,reduceCtorEq,↓reduceIte,nA,nB,nC,nD,nE,iA,iB,iC,iD,iE,iF,hk,hkr',hexr,hexr2,hr,hP.lowd,hP.lowf,hG.low,hd1,hf1,hl1])
   | (refine W.step (data_w (by assumption) (by simp only[go_sem,hk,ho]<;>rfl)) ?_;rintro _ ⟨p2,r2,rfl,a1,a2,a3⟩;simp only[go_sem,reduceCtorEq,↓reduceIte,nA,nB,nC,nD,nE,iA,iB,iC,iD,iE,iF,hk,hkr',hexr,hexr2,hr,hP.lowd,hP.lowf,hG.low,hd1,hf1,hl1])
   | (refine W.step (fixity_w (by assumption) (by simp only[go_sem,hk,ho]<;>rfl)) ?_;rintro _ ⟨p2,r2,rfl,a1,a2⟩;simp only[go_sem,reduceCtorEq,↓reduceIte,nA,nB,nC,nD,nE,iA,iB,iC,iD,iE,iF,hk,hkr',hexr,hexr2,hr,hP.lowd,hP.lowf,hG.low,hd1,hf1,hl1])
   | (refine W.step (clause_w (by simp only[go_sem,hk,ho]<;>rfl) hG (by omega)) ?_;rintro _ ⟨p2,l',es',A',N',rfl,hG',c1,c2,c3,⟨z,c4,c5⟩,c6,c7,c8,c9⟩;have hl1':=hG'.one;simp only[go_sem,reduceCtorEq,↓reduceIte,nA,nB,nC,nD,nE,iA,iB,iC,iD,iE,iF,hk,hG'.low,hl1',hkr',hexr,hexr2,hr,hP.lowd,hP.lowf,hG.low,hd1,hf1,hl1]))
 ·obtain⟨v',A',N',k1,k2,k3,i,n,rfl,k5⟩:=hP.pushd (y:=r2) (by unfold most;omega)
  have k1':∀ l',agrow (newAr (ex (setOb s k p2.ob) l') r2.av.cells) (.st 5) 1 r2.av.cells u=some (_,wa (ex (setOb s k p2.ob) l') A' N'):=fun l'=>k1 (ex (setOb s k p2.ob) l')
  rw[Data.cells_eq] at k1'
  simp only[go_sem,reduceCtorEq,↓reduceIte,nA,nB,nC,nD,nE,iA,iB,iC,iD,iE,iF,k1',hk,hkr',hexr,hone]
  rw[back_out hr hP.alow (.inl (alow_hi1 k5))]
  exact⟨p2,_,_,_,_,_,_,A',N',rfl,k2,a1,a2,by unfold tsz;simp;omega,fun hb2=>by have:=PS.le_w a1;omega,k3,.inl (alow_hi1 k5)⟩
 iterate 3
  ·obtain⟨v',A',N',k1,k2,k3,i,n,rfl,k5⟩:=hP.pushf (y:=r2) (by unfold most;omega)
   have k1':∀ l',agrow (newAr (ex (setOb s k p2.ob) l') r2.av.cells) (.st 5) 1 r2.av.cells f=some (_,wa (ex (setOb s k p2.ob) l') A' N'):=fun l'=>k1 (ex (setOb s k p2.ob) l')
   rw[FixT.cells_eq] at k1'
   simp only[go_sem,reduceCtorEq,↓reduceIte,nA,nB,nC,nD,nE,iA,iB,iC,iD,iE,iF,k1',hk,hkr',hexr,hone]
   rw[back_out hr hP.alow (.inl (alow_hi2 k5))]
   exact⟨p2,_,_,_,_,_,_,A',N',rfl,k2,a1,a2,by unfold tsz;simp;omega,fun hb2=>by have:=PS.le_w a1;omega,k3,.inl (alow_hi2 k5)⟩
 ·have hch:AV.alowL s.nxt [u,f,l']=false∨∃ a,a<s.nxt∧A' a≠s.arr a:=by
   rcases c9 with ⟨i,n,rfl,h⟩|h
   ·exact .inl (alow_hi3 h)
   ·exact .inr h
  rw[back_out hr hP.alow hch]
  exact⟨p2,_,_,_,_,_,_,A',N',rfl,hP.setb hG' c6 c7 c8,c1,c2,by unfold tsz;omega,c3,c6,hch⟩
end Go.Am
namespace Go.Am
open Go
theorem rowat {A:Nat→Option (List AV)} {v:AV} {Fr:List Frm} (h:Rd A (.st 2) v (Fr.map fav)) {i:Nat} (hi:i<Fr.length):∃ p p1,(∀ k,aiad (.st 2) v (.i k (i:Int))=some p)∧afad 0 p=some p1∧(∀ s:St,s.arr=A→aload s .one p1=some (.i .i64 Fr[i].1))∧∃ p2,afad 1 p=some p2∧∀ s:St,s.arr=A→aload s .one p2=some (.i .i64 Fr[i].2):=by
 obtain⟨p,h1,-,h3⟩:=h.ld i (fav Fr[i]) (by simp[hi])
 obtain⟨p1,h4,h5⟩:=h3 0 .one (by show 0+1≤2;omega)
 obtain⟨p2,h6,h7⟩:=h3 1 .one (by show 1+1≤2;omega)
 exact⟨p,p1,h1,h4,fun s hs=>h5 s hs,p2,h6,fun s hs=>h7 s hs⟩
def blk (Fr:List Frm):Nat→Int
 | 0 => -1
 | n+1=>if (Fr.getD n (0,0)).1=0∨(Fr.getD n (0,0)).1=1 then (n:Int) else blk Fr n
theorem blk_lt {Fr:List Frm}:∀ {n:Nat},-1≤blk Fr n∧blk Fr n<n
 | 0=>⟨by show (-1:Int) ≤ -1;omega,by show (-1:Int)<0;omega⟩
 | n+1=>by
  unfold blk
  split
  ·omega
  ·have:=@blk_lt Fr n;omega
theorem wrap_dn {n:Nat} (h:n<100000000):IntKind.i64.wrap ((n:Int) - 1 - 1)=(n:Int) - 1 - 1∧IntKind.i64.wrap ((n:Int) - 1)=(n:Int) - 1:=by
 constructor
 ·unfold IntKind.wrap;simp[IntKind.bits,IntKind.signed];omega
 ·unfold IntKind.wrap;simp[IntKind.bits,IntKind.signed];omega
theorem block_tot {v1 v2:AV} {b:Bool} {l c:Nat} {k:Nat} (Fr:List Frm) (s:St) (ho:obj s k=some (yob v1 v2 b l c)) (hr:Rd s.arr (.st 2) v2 (Fr.map fav)) (hl:Fr.length≤900000):C F0 X0 97 [.ref k 0] s=some (.i .i64 (blk Fr Fr.length),s):=by
 have hk:=obj_lt ho
 have hlen:=hr.len
 rw[List.length_map] at hlen
 unfold yob at ho
 have hw:=(wrap_dn (n:=Fr.length) (by omega)).2
 refine W.eq ?_
 rw[w_call (f:=97) rfl]
 simp only[go_sem,reduceCtorEq,↓reduceIte,nA,nB,nC,nD,nE,iA,iB,iC,iD,iE,iF,hk,ho,hlen,hw]
 refine W.step (W.loop (L:=l97_0) (Q:=fun q=>(q=(.ret,[(2,.i .i64 (blk Fr Fr.length))],s))∨(∃ e,q=(.exit 0,e,s))∧blk Fr Fr.length = -1) rfl (fun n e t=>n≤Fr.length∧e=[(0,.ref k 0),(3,.i .i64 ((n:Int) - 1))]∧t=s∧blk Fr Fr.length=blk Fr n) ?_ Fr.length _ _ ⟨Nat.le_refl _,rfl,rfl,rfl⟩) ?_
 ·rintro n e t ⟨hn,rfl,rfl,hb⟩
  cases n with
  | zero =>
   have h0:decide ((0:Int) - 1≥0)=false:=by decide
   simp only[go_sem,reduceCtorEq,↓reduceIte,nA,nB,nC,nD,nE,iA,iB,iC,iD,iE,iF,h0]
   exact .inr ⟨⟨_,rfl⟩,hb⟩
  | succ n =>
   have h0:decide (((n+1:Nat):Int) - 1≥0)=true:=decide_eq_true (by omega)
   have h1:(((n+1:Nat):Int) - 1)=(n:Int):=by omega
   have hw2:IntKind.i64.wrap ((n:Int) - 1)=(n:Int) - 1:=(wrap_dn (by omega)).2
   obtain⟨p,p1,g1,g2,g3,-⟩:=rowat hr (i:=n) (by omega)
   have g3':=g3 t rfl
   have hd:Fr.getD n (0,0)=Fr[n]:=by rw[List.getD_eq_getElem?_getD,List.getElem?_eq_getElem (by omega)];rfl
   rw[h1] at h0 ⊢
   rw[blk,hd] at hb
   simp only[go_sem,reduceCtorEq,↓reduceIte,nA,nB,nC,nD,nE,iA,iB,iC,iD,iE,iF,h0,hk,ho,g1,g2,g3']
   refine W.ifc (fun d=>?_) (fun d=>?_)
   ·have hb2:blk Fr Fr.length=(n:Int):=by rw[hb,if_pos (.inl (by simpa using d))]
    simp only[go_sem,reduceCtorEq,↓reduceIte,nA,nB,nC,nD,nE,iA,iB,iC,iD,iE,iF,d]
    exact .inl (by rw[hb2])
   ·simp only[go_sem,reduceCtorEq,↓reduceIte,nA,nB,nC,nD,nE,iA,iB,iC,iD,iE,iF,d]
    refine W.ifc (fun d2=>?_) (fun d2=>?_)
    ·have hb2:blk Fr Fr.length=(n:Int):=by rw[hb,if_pos (.inr (by simpa using d2))]
     simp only[go_sem,reduceCtorEq,↓reduceIte,nA,nB,nC,nD,nE,iA,iB,iC,iD,iE,iF,d,d2]
     exact .inl (by rw[hb2])
    ·have hb2:blk Fr Fr.length=blk Fr n:=by rw[hb,if_neg (by simp at d d2;omega)]
     simp only[go_sem,reduceCtorEq,↓reduceIte,nA,nB,nC,nD,nE,iA,iB,iC,iD,iE,iF,d,d2,hw2]
     exact⟨n,Nat.lt_succ_self _,by omega,rfl,hb2⟩
 ·rintro q (rfl|⟨⟨e,rfl⟩,hb⟩)
  ·simp only[go_sem,reduceCtorEq,↓reduceIte,nA,nB,nC,nD,nE,iA,iB,iC,iD,iE,iF]
  ·simp only[go_sem,reduceCtorEq,↓reduceIte,nA,nB,nC,nD,nE,iA,iB,iC,iD,iE,iF]
   rw[hb]
theorem column_tot {v1 v2:AV} {b:Bool} {l c:Nat} {k:Nat} (Fr:List Frm) (s:St) (ho:obj s k=some (yob v1 v2 b l c)) (hr:Rd s.arr (.st 2) v2 (Fr.map fav)) (hl:Fr.length≤900000):∃ m,C F0 X0 94 [.ref k 0] s=some (.i .i64 m,s):=by
 suffices h:W (C F0 X0 94 [.ref k 0] s) fun q=>∃ m,q=(.i .i64 m,s) by
  obtain⟨r,h1,m,rfl⟩:=h;exact⟨m,h1⟩
 have hk:=obj_lt ho
 have hb:=block_tot Fr s ho hr hl
 have hbl:=@blk_lt Fr Fr.length
 unfold yob at ho
 rw[w_call (f:=94) rfl]
 simp only[go_sem,reduceCtorEq,↓reduceIte,nA,nB,nC,nD,nE,iA,iB,iC,iD,iE,iF,hb]
 refine W.ifc (fun d=>?_) (fun d=>?_)
 ·simp only[go_sem,reduceCtorEq,↓reduceIte,nA,nB,nC,nD,nE,iA,iB,iC,iD,iE,iF,d]
  exact⟨_,rfl⟩
 ·obtain⟨n,hn⟩:∃ n:Nat,blk Fr Fr.length=(n:Int):=⟨(blk Fr Fr.length).toNat,by simp at d;omega⟩
  obtain⟨p,p1,g1,g2,g3,p2,g4,g5⟩:=rowat hr (i:=n) (by omega)
  rw[hn] at d ⊢
  simp only[go_sem,reduceCtorEq,↓reduceIte,nA,nB,nC,nD,nE,iA,iB,iC,iD,iE,iF,d,hk,ho,g1,g2,g3 s rfl]
  refine W.ifc (fun d2=>?_) (fun d2=>?_)
  ·simp only[go_sem,reduceCtorEq,↓reduceIte,nA,nB,nC,nD,nE,iA,iB,iC,iD,iE,iF,d2]
   exact⟨_,rfl⟩
  ·simp only[go_sem,reduceCtorEq,↓reduceIte,nA,nB,nC,nD,nE,iA,iB,iC,iD,iE,iF,d2,hk,ho,g1,g4,g5 s rfl]
   exact⟨_,rfl⟩
theorem inLaid_tot {v1 v2:AV} {b:Bool} {l c:Nat} {k:Nat} (Fr:List Frm) (s:St) (ho:obj s k=some (yob v1 v2 b l c)) (hr:Rd s.arr (.st 2) v2 (Fr.map fav)) (hl:Fr.length≤900000):∃ m,C F0 X0 96 [.ref k 0] s=some (.b m,s)∧(m=true→0≤blk Fr Fr.length):=by
 suffices h:W (C F0 X0 96 [.ref k 0] s) fun q=>∃ m,q=(.b m,s)∧(m=true→0≤blk Fr Fr.length) by
  obtain⟨r,h1,m,rfl,h2⟩:=h;exact⟨m,h1,h2⟩
 have hk:=obj_lt ho
 have hb:=block_tot Fr s ho hr hl
 have hbl:=@blk_lt Fr Fr.length
 unfold yob at ho
 rw[w_call (f:=96) rfl]
 simp only[go_sem,reduceCtorEq,↓reduceIte,nA,nB,nC,nD,nE,iA,iB,iC,iD,iE,iF,hb]
 refine W.ifc (fun d=>?_) (fun d=>?_)
 ·have h0:0≤blk Fr Fr.length:=by simpa using d
  obtain⟨n,hn⟩:∃ n:Nat,blk Fr Fr.length=(n:Int):=⟨(blk Fr Fr.length).toNat,by omega⟩
  obtain⟨p,p1,g1,g2,g3,p2,g4,g5⟩:=rowat hr (i:=n) (by omega)
  rw[hn] at d ⊢
  simp only[go_sem,reduceCtorEq,↓reduceIte,nA,nB,nC,nD,nE,iA,iB,iC,iD,iE,iF,d,hk,ho,g1,g2,g3 s rfl]
  exact⟨_,rfl,fun _=>by omega⟩
 ·simp only[go_sem,reduceCtorEq,↓reduceIte,nA,nB,nC,nD,nE,iA,iB,iC,iD,iE,iF,d]
  exact⟨_,rfl,fun h=>by cases h⟩
theorem find_tot {v1 v2 w:AV} {b:Bool} {l c:Nat} {k:Nat} (Fr:List Frm) (x:Int) (bars:List Int) (s:St) (ho:obj s k=some (yob v1 v2 b l c)) (hr:Rd s.arr (.st 2) v2 (Fr.map fav)) (hl:Fr.length≤900000) (hb:Rd s.arr .one w (bars.map (AV.i .i64))) (hbl:bars.length≤900000):∃ m:Int,-1≤m∧m<Fr.length∧C F0 X0 98 [.ref k 0,.i .i64 x,w] s=some (.i .i64 m,s):=by
 suffices h:W (C F0 X0 98 [.ref k 0,.i .i64 x,w] s) fun q=>∃ m:Int,-1≤m∧m<Fr.length∧q=(.i .i64 m,s) by
  obtain⟨r,h1,m,h2,h3,rfl⟩:=h;exact⟨m,h2,h3,h1⟩
 have hk:=obj_lt ho
 have hlen:=hr.len
 have hblen:=hb.len
 have hwl:=hb.low
 rw[List.length_map] at hlen hblen
 unfold yob at ho
 have hw:=(wrap_dn (n:=Fr.length) (by omega)).2
 rw[w_call (f:=98) rfl]
 simp only[go_sem,reduceCtorEq,↓reduceIte,nA,nB,nC,nD,nE,iA,iB,iC,iD,iE,iF,hk,ho,hlen,hw]
 refine W.step (W.loop (L:=l98_1) (Q:=fun q=>∃ e m,q=(.exit 0,e,s)∧get e 7=some (.i .i64 m) ∧ -1≤m∧m<Fr.length) rfl (fun n e t=>n≤Fr.length∧e=[(0,.ref k 0),(1,.i .i64 x),(2,w),(7,.i .i64 (-1)),(8,.i .i64 ((n:Int) - 1))]∧t=s) ?_ Fr.length _ _ ⟨Nat.le_refl _,rfl,rfl⟩) ?_
 ·rintro n e t ⟨hn,rfl,rfl⟩
  cases n with
  | zero =>
   have h0:decide ((0:Int) - 1≥0)=false:=by decide
   simp only[go_sem,reduceCtorEq,↓reduceIte,nA,nB,nC,nD,nE,iA,iB,iC,iD,iE,iF,h0]
   exact⟨_,_,rfl,rfl,by omega,by omega⟩
  | succ n =>
   have h0:decide (((n+1:Nat):Int) - 1≥0)=true:=decide_eq_true (by omega)
   have h1:(((n+1:Nat):Int) - 1)=(n:Int):=by omega
   have hw2:IntKind.i64.wrap ((n:Int) - 1)=(n:Int) - 1:=(wrap_dn (by omega)).2
   obtain⟨p,p1,g1,g2,g3,-⟩:=rowat hr (i:=n) (by omega)
   have g3':=g3 t rfl
   rw[h1] at h0 ⊢
   simp only[go_sem,reduceCtorEq,↓reduceIte,nA,nB,nC,nD,nE,iA,iB,iC,iD,iE,iF,h0,hk,ho,g1,g2,g3',hblen]
   refine W.ifc (fun d=>?_) (fun d=>?_)
   ·simp only[go_sem,reduceCtorEq,↓reduceIte,nA,nB,nC,nD,nE,iA,iB,iC,iD,iE,iF,d]
    exact⟨_,_,rfl,rfl,by omega,by omega⟩
   ·simp only[go_sem,reduceCtorEq,↓reduceIte,nA,nB,nC,nD,nE,iA,iB,iC,iD,iE,iF,d,hblen]
    refine W.step (W.range (n:=bars.length) (Q:=fun q=>q=(.exit 2,[(0,.ref k 0),(1,.i .i64 x),(2,w),(7,.i .i64 (-1)),(8,.i .i64 (n:Int)),(9,.i .i64 Fr[n].1),(34,w),(35,.i .i64 (bars.length:Int)),(36,.i .i64 (bars.length:Int)),(37,.b false)],t)∨q=(.exit 0,[(0,.ref k 0),(1,.i .i64 x),(2,w),(7,.i .i64 (-1)),(8,.i .i64 (n:Int)),(9,.i .i64 Fr[n].1),(34,w),(35,.i .i64 (bars.length:Int)),(36,.i .i64 0),(42,.b true)],t)∨∃ E,q=(.exit 0,E,t)∧get E 7=some (.i .i64 (-1))) (L:=l98_0) rfl (fun i E u=>E=[(0,.ref k 0),(1,.i .i64 x),(2,w),(7,.i .i64 (-1)),(8,.i .i64 (n:Int)),(9,.i .i64 Fr[n].1),(34,w),(35,.i .i64 (bars.length:Int)),(36,.i .i64 (i:Int))]∧u=t) ?_ ?_ 0 _ _ (Nat.zero_le _) ⟨rfl,rfl⟩) ?_
    ·rintro i E u ⟨rfl,rfl⟩ hi
     obtain⟨q,j1,j2,-⟩:=hb.ld i (.i .i64 bars[i]) (by simp[hi])
     have j3:=j2 u rfl
     have i3:decide ((i:Int)<(bars.length:Int))=true:=by simp;omega
     have i5:=@wrap_one i (by omega)
     simp only[go_sem,reduceCtorEq,↓reduceIte,nA,nB,nC,nD,nE,iA,iB,iC,iD,iE,iF,j1,j3,i3,i5]
     refine W.ifc (fun d=>?_) (fun d=>?_)
     ·simp only[go_sem,reduceCtorEq,↓reduceIte,nA,nB,nC,nD,nE,iA,iB,iC,iD,iE,iF,d]
      exact .inr (.inr ⟨_,rfl,rfl⟩)
     ·simp only[go_sem,reduceCtorEq,↓reduceIte,nA,nB,nC,nD,nE,iA,iB,iC,iD,iE,iF,d,i5]
    ·rintro E u ⟨rfl,rfl⟩
     have i3:decide ((bars.length:Int)<(bars.length:Int))=false:=by simp
     simp only[go_sem,reduceCtorEq,↓reduceIte,nA,nB,nC,nD,nE,iA,iB,iC,iD,iE,iF,i3]
     exact .inl trivial
    ·rintro q (rfl|rfl|⟨E,rfl,hE⟩)
     ·simp only[go_sem,reduceCtorEq,↓reduceIte,nA,nB,nC,nD,nE,iA,iB,iC,iD,iE,iF,hw2]
      exact⟨n,Nat.lt_succ_self _,by omega,rfl⟩
     ·simp only[go_sem,reduceCtorEq,↓reduceIte,nA,nB,nC,nD,nE,iA,iB,iC,iD,iE,iF]
      exact⟨_,_,rfl,rfl,by omega,by omega⟩
     ·simp only[go_sem,reduceCtorEq,↓reduceIte,nA,nB,nC,nD,nE,iA,iB,iC,iD,iE,iF]
      exact⟨_,_,rfl,hE,by omega,by omega⟩
 ·rintro q ⟨e,m,rfl,he,h1,h2⟩
  simp only[go_sem,reduceCtorEq,↓reduceIte,nA,nB,nC,nD,nE,iA,iB,iC,iD,iE,iF,he]
  exact⟨m,h1,h2,rfl⟩
end Go.Am
namespace Go.Am
open Go
theorem Ly.na {s0 k s O Fr} (h:Ly s0 k s O Fr) (cs:List AV):Ly s0 k (newAr s cs) O Fr:=by
 obtain⟨v1,v2,b,l,c,d1,d2,t1,t2,t3,t4,t5,t6,t7⟩:=h.tab
 exact⟨h.cnt,h.oth,h.hk,fun a ha=>(upd_other (by have:=h.nx;omega)).trans (h.old a ha),Nat.le_succ_of_le h.nx,v1,v2,b,l,c,d1,d2,t1,t2.mono fun a ha=>⟨upd_other (by have:=t2.lt ha;omega),Nat.lt_succ_of_lt (t2.lt ha)⟩,t3.mono fun a ha=>⟨upd_other (by have:=t3.lt ha;omega),Nat.lt_succ_of_lt (t3.lt ha)⟩,t4,t5,t6,t7⟩
theorem Ly.cut {s0 k s O Fr} (h:Ly s0 k s O Fr) {v1 v2 b l c} (ho:obj s k=some (yob v1 v2 b l c)) {n:Nat} (hn:n≤Fr.length):∃ v',aslice false v2 none (some (.i .i64 (n:Int)))=some v'∧v'.cells=[v']∧(∀ n,v'.low n=true)∧Ly s0 k (setOb s k (yob v1 v' b l c)) O (Fr.take n):=by
 obtain⟨w1,w2,b0,l1,c0,d1,d2,t1,t2,t3,t4,t5,t6,t7⟩:=h.tab
 rw[ho] at t1
 unfold yob at t1
 injection t1 with t1
 injection t1 with t1
 injection t1 with q1 t1
 injection t1 with q2 t1
 subst q1 q2
 obtain⟨v',k1,k2⟩:=t3.cut (n:=n) (k:=.i64) (by simpa using hn)
 refine⟨v',k1,k2.one,k2.low,by rw[cnt_set];exact h.cnt,fun r hr=>by rw[obj_set' (fun h=>hr h.symm)];exact h.oth r hr,h.hk,h.old,h.nx,v1,v',b,l,c,d1,d2,obj_set (obj_lt ho),t2,by rw[List.map_take];exact k2,t4,t5,t6,t7⟩
theorem Ly.rd {s0 k s O Fr} (h:Ly s0 k s O Fr):∃ v1 v2 b l c,obj s k=some (yob v1 v2 b l c)∧Rd s.arr (.st 2) v2 (Fr.map fav)∧alen false v2=some (.i .i64 (Fr.length:Nat)):=by
 obtain⟨v1,v2,b,l,c,d1,d2,t1,t2,t3,t4,t5,t6,t7⟩:=h.tab
 have:=t3.len
 rw[List.length_map] at this
 exact⟨v1,v2,b,l,c,t1,t3.rd (by decide),this⟩
theorem closeTo_tot {s0 k s O Fr} (K:Int) (hK:0≤K) (h:Ly s0 k s O Fr) (hm:O.length+Fr.length≤800000):LT s0 k O Fr 0 (C F0 X0 99 [.ref k 0,.i .i64 K] s):=by
 have hF:=h
 rw[w_call (f:=99) rfl]
 simp only[go_sem,reduceCtorEq,↓reduceIte,nA,nB,nC,nD,nE,iA,iB,iC,iD,iE,iF]
 refine W.step (W.loop (L:=l99_0) (Q:=fun q=>∃ E t O' Fr',q=(.exit 0,E,t)∧Ly s0 k t O' Fr'∧O'.length+Fr'.length≤O.length+Fr.length∧wts O'≤wts O) rfl (fun n E t=>∃ O' Fr',n=Fr'.length∧E=[(0,.ref k 0),(1,.i .i64 K)]∧Ly s0 k t O' Fr'∧O'.length+Fr'.length≤O.length+Fr.length∧wts O'≤wts O) ?_ Fr.length _ _ ⟨O,Fr,rfl,rfl,hF,Nat.le_refl _,Nat.le_refl _⟩) ?_
 ·rintro n E t ⟨O',Fr',rfl,rfl,ht,hO,hw⟩
  obtain⟨v1,v2,b,l,c,t1,t2,t3⟩:=ht.rd
  have hk:=ht.kl
  have t1':=t1
  unfold yob at t1'
  simp only[go_sem,reduceCtorEq,↓reduceIte,nA,nB,nC,nD,nE,iA,iB,iC,iD,iE,iF,hk,t1',t3]
  refine W.ifc (fun d=>?_) (fun d=>?_)
  ·have hpos:0<Fr'.length:=by simp at d;omega
   have hw1:IntKind.i64.wrap ((Fr'.length:Int) - 1)=((Fr'.length - 1:Nat):Int):=by rw[(wrap_dn (by omega)).2];omega
   obtain⟨p,p1,g1,g2,g3,-⟩:=rowat t2 (i:=Fr'.length - 1) (by omega)
   have g3':=g3 t rfl
   simp only[go_sem,reduceCtorEq,↓reduceIte,nA,nB,nC,nD,nE,iA,iB,iC,iD,iE,iF,d,hk,t1',t3,hw1]
   refine W.ifc (fun d1=>?_) (fun d1=>?_)
   · simp only[go_sem,reduceCtorEq,↓reduceIte,nA,nB,nC,nD,nE,iA,iB,iC,iD,iE,iF,d1,hk,t1',g1,g2,g3']
     refine W.ifc (fun d2=>?_) (fun d2=>?_)
     ·simp only[go_sem,reduceCtorEq,↓reduceIte,nA,nB,nC,nD,nE,iA,iB,iC,iD,iE,iF,d2]
      refine W.step (make_tot [125] ht (by omega)) ?_
      rintro⟨u,t2⟩ ⟨rfl,x,hx,h2⟩
      obtain⟨u1,u2,b',l',c',e1,e2,e3⟩:=h2.rd
      obtain⟨v',f1,f2,f3,f4⟩:=h2.cut e1 (n:=Fr'.length - 1) (by omega)
      have hk2:=h2.kl
      unfold yob at e1
      simp only[go_sem,reduceCtorEq,↓reduceIte,nA,nB,nC,nD,nE,iA,iB,iC,iD,iE,iF,hk2,e1,f1,f2,f3]
      exact⟨Fr'.length - 1,by omega,_,Fr'.take (Fr'.length - 1),by rw[List.length_take];omega,f4,by rw[List.length_take];rw[List.length_append];simp only[List.length_cons,List.length_nil];omega,by rw[wts_one hx];exact hw⟩
     ·skip
      obtain⟨v',f1,f2,f3,f4⟩:=ht.cut t1 (n:=Fr'.length - 1) (by omega)
      have hk2:=ht.kl
      simp only[go_sem,reduceCtorEq,↓reduceIte,nA,nB,nC,nD,nE,iA,iB,iC,iD,iE,iF,d2,hk2,t1',f1,f2,f3]
      exact⟨Fr'.length - 1,by omega,_,Fr'.take (Fr'.length - 1),by rw[List.length_take];omega,f4,by rw[List.length_take];omega,hw⟩
   · skip
     obtain⟨v',f1,f2,f3,f4⟩:=ht.cut t1 (n:=Fr'.length - 1) (by omega)
     have hk2:=ht.kl
     simp only[go_sem,reduceCtorEq,↓reduceIte,nA,nB,nC,nD,nE,iA,iB,iC,iD,iE,iF,d1,hk2,t1',f1,f2,f3]
     exact⟨Fr'.length - 1,by omega,_,Fr'.take (Fr'.length - 1),by rw[List.length_take];omega,f4,by rw[List.length_take];omega,hw⟩
  ·simp only[go_sem,reduceCtorEq,↓reduceIte,nA,nB,nC,nD,nE,iA,iB,iC,iD,iE,iF,d]
   exact⟨_,_,O',Fr',rfl,ht,hO,hw⟩
 ·rintro q ⟨E,t,O',Fr',rfl,ht,hO,hw⟩
  have c2:cnt t=cnt s:=ht.cnt.trans hF.cnt.symm
  simp only[go_sem,reduceCtorEq,↓reduceIte,nA,nB,nC,nD,nE,iA,iB,iC,iD,iE,iF,c2]
  exact⟨O',Fr',hF.back ht,by omega,hw⟩
theorem ints1 {A:Nat→Option (List AV)} {n:Nat} (h:A n=some [.i .i64 1]):Rd A .one (.os n .one 1) ([1].map (AV.i .i64)) :=
 Gr.rd (N:=n+1) (d:=some n) ⟨(fun x hx=>by rw[List.mem_singleton.1 hx];exact ele_one rfl),.inr ⟨n,_,rfl,h,rfl,Nat.lt_succ_self _,rfl⟩⟩ (by decide)
theorem ints2 {A:Nat→Option (List AV)} {n:Nat} (h:A n=some [.i .i64 1,.i .i64 2]):Rd A .one (.os n .one 2) ([1,2].map (AV.i .i64)) :=
 Gr.rd (N:=n+1) (d:=some n) ⟨(fun x hx=>by simp at hx;rcases hx with rfl|rfl<;>exact ele_one rfl),.inr ⟨n,_,rfl,h,rfl,Nat.lt_succ_self _,rfl⟩⟩ (by decide)
theorem ints0 {A:Nat→Option (List AV)}:Rd A .one .nsl (([]:List Int).map (AV.i .i64)):=Gr.rd (N:=0) (d:=none) Gr.nil (by decide)
theorem closes_tot {s0 k s O Fr} (t:Tok) (h:Ly s0 k s O Fr) (hm:O.length+Fr.length≤800000):LT s0 k O Fr 0 (C F0 X0 56 [.ref k 0,t.av] s):=by
 have hF:=h
 have hc:=h.cnt
 obtain⟨l0,hl0⟩:∃ l0:List Ob,l0=[.cells t.av.cells]:=⟨_,rfl⟩
 have hl:=h.ex l0
 have hl0':=hl0
 rw[Tok.cells_eq] at hl0'
 have fnd:∀ (x:Int) (cs:List AV) (w:AV) (bars:List Int) (S:St),Ly (ex s0 l0) k S O Fr→Rd S.arr .one w (bars.map (AV.i .i64))→bars.length≤900000→∃ m:Int,C F0 X0 98 [.ref k 0,.i .i64 x,w] S=some (.i .i64 m,S):=fun x cs w bars S hS hb hbl=>by
  obtain⟨v1,v2,b,l,c,t1,t2,t3⟩:=hS.rd
  obtain⟨m,-,-,hm⟩:=find_tot Fr x bars S t1 t2 (by omega) hb hbl
  exact⟨m,hm⟩
 have h1:=hl.na [.i .i64 1]
 have h2:=hl.na [.i .i64 1,.i .i64 2]
 obtain⟨m1,f1⟩:=fnd 2 [] _ _ _ h1 (ints1 upd_same) (by decide)
 obtain⟨m2,f2⟩:=fnd 1 [] _ _ _ hl ints0 (by decide)
 obtain⟨m3,f3⟩:=fnd 3 [] _ _ _ h2 (ints2 upd_same) (by decide)
 obtain⟨m4,f4⟩:=fnd 4 [] _ _ _ h2 (ints2 upd_same) (by decide)
 obtain⟨m5,f5⟩:=fnd 5 [] _ _ _ h2 (ints2 upd_same) (by decide)
 obtain⟨m6,f6⟩:=fnd 6 [] _ _ _ h2 (ints2 upd_same) (by decide)
 rw[ex_nxt] at f1 f3 f4 f5 f6
 have fin:∀ {S:St},Ly (ex s0 l0) k S O Fr→∃ t2,S=ex t2 l0∧Ly s0 k t2 O Fr∧cnt t2=cnt s:=fun hS=>by
  obtain⟨t2,rfl,q⟩:=hS.unex h.hk
  exact⟨t2,rfl,q,q.cnt.trans hc.symm⟩
 have fin2:∀ (m:Int) {S:St},decide (m≥0)=true→Ly (ex s0 l0) k S O Fr→W (C F0 X0 99 [.ref k 0,.i .i64 m] S) fun q=>q.1=.tup []∧∃ t2 O' Fr',q.2=ex t2 l0∧Ly s0 k t2 O' Fr'∧cnt t2=cnt s∧O'.length+Fr'.length≤O.length+Fr.length∧wts O'≤wts O:=fun m S hm0 hS=>by
  refine W.mono (closeTo_tot m (by simpa using hm0) hS hm) ?_
  rintro⟨u,S2⟩ ⟨rfl,O',Fr',q1,q2,q3⟩
  obtain⟨t2,rfl,q4⟩:=q1.unex h.hk
  exact⟨rfl,t2,O',Fr',rfl,q4,q4.cnt.trans hc.symm,by omega,q3⟩
 rw[hl0'] at f1 f2 f3 f4 f5 f6 fin fin2 h1 h2 hl
 rw[w_call (f:=56) rfl]
 have hm1:decide ((-1:Int)≥0)=false:=by decide
 have base:Ly s0 k (ex s []) O Fr:=by rw[ex_nil];exact hF
 simp only[go_sem,reduceCtorEq,↓reduceIte,nA,nB,nC,nD,nE,iA,iB,iC,iD,iE,iF]
 repeat' (first
  | (refine W.ifc (fun d=>?_) (fun d=>?_)<;>simp only[go_sem,reduceCtorEq,↓reduceIte,nA,nB,nC,nD,nE,iA,iB,iC,iD,iE,iF,d,f1,f2,f3,f4,f5,f6,hm1])
  |(refine W.step (fin2 _ (by assumption) (by first|exact hl|exact h1|exact h2)) ?_
    rintro⟨u,S2⟩ ⟨rfl,t2,O',Fr',rfl,q1,q2,q3,q4⟩
    simp only[go_sem,reduceCtorEq,↓reduceIte,nA,nB,nC,nD,nE,iA,iB,iC,iD,iE,iF,q2]))
 all_goals first
  | exact⟨O,Fr,hF.back hF,Nat.le_refl _,Nat.le_refl _⟩
  | exact⟨O,Fr,hF,Nat.le_refl _,Nat.le_refl _⟩
  | exact⟨O,Fr,hF.back (hF.na _),Nat.le_refl _,Nat.le_refl _⟩
  | exact⟨_,_,hF.back q1,q3,q4⟩
  | trace_state
end Go.Am
namespace Go.Am
open Go
theorem opens_tot {s0 k s O Fr} (t:Tok) (h:Ly s0 k s O Fr) (hm:O.length+Fr.length≤800000):LT s0 k O Fr 1 (C F0 X0 57 [.ref k 0,t.av] s):=by
 have hF:=h
 have hc:=h.cnt
 obtain⟨l0,hl0⟩:∃ l0:List Ob,l0=[.cells t.av.cells]:=⟨_,rfl⟩
 have hl:=h.ex l0
 have hl0':=hl0
 rw[Tok.cells_eq] at hl0'
 obtain⟨v1,v2,b,l,c,d1,d2,t1,-⟩:=h.tab
 have hset:Ly s0 k (setOb s k (yob v1 v2 true l c)) O Fr:=h.set t1 true l c
 have hk:=h.kl
 have t1':=t1
 unfold yob at t1' hset
 have fin:∀ (x:Int) {S:St},Ly (ex s0 l0) k S O Fr→W (C F0 X0 95 [.ref k 0,.i .i64 x,.i .i64 0] S) fun q=>q.1=.tup []∧∃ t2 v1 v2 b l c,q.2=ex t2 l0∧Ly s0 k t2 O (Fr++[(x,0)])∧cnt t2=cnt s∧k<cnt t2∧obj t2 k=some (.cells [v1,v2,.b b,.i .i64 (l:Int),.i .i64 (c:Int)])∧Ly s0 k (setOb t2 k (.cells [v1,v2,.b true,.i .i64 (l:Int),.i .i64 (c:Int)])) O (Fr++[(x,0)]):=fun x S hS=>by
  refine W.mono (lpush_tot x 0 hS (by omega)) ?_
  rintro⟨u,S2⟩ ⟨rfl,q1⟩
  obtain⟨t2,rfl,q4⟩:=q1.unex h.hk
  obtain⟨v1,v2,b,l,c,d1,d2,r1,-⟩:=q4.tab
  exact⟨rfl,t2,v1,v2,b,_,_,rfl,q4,q4.cnt.trans hc.symm,q4.kl,r1,q4.set r1 true l c⟩
 rw[hl0'] at fin hl
 rw[w_call (f:=57) rfl]
 simp only[go_sem,reduceCtorEq,↓reduceIte,nA,nB,nC,nD,nE,iA,iB,iC,iD,iE,iF]
 repeat' (first
  | (refine W.ifc (fun d=>?_) (fun d=>?_)<;>simp only[go_sem,reduceCtorEq,↓reduceIte,nA,nB,nC,nD,nE,iA,iB,iC,iD,iE,iF,d,hk,t1'])
  |(refine W.step (fin _ hl) ?_
    rintro⟨u,S2⟩ ⟨rfl,t2,w1,w2,b2,l2,c2,rfl,q1,q2,q3,q4,q5⟩
    simp only[go_sem,reduceCtorEq,↓reduceIte,nA,nB,nC,nD,nE,iA,iB,iC,iD,iE,iF,q2,q3,q4,hk]))
 all_goals first
  | exact⟨O,Fr,hF,by omega,Nat.le_refl _⟩
  | exact⟨O,Fr,hF.back hF,by omega,Nat.le_refl _⟩
  | exact⟨O,Fr,hF.back hset,by omega,Nat.le_refl _⟩
  | exact⟨O,Fr,hset,by omega,Nat.le_refl _⟩
  | exact⟨O,_,hF.back q1,by rw[List.length_append];simp only[List.length_cons,List.length_nil];omega,Nat.le_refl _⟩
  | exact⟨O,_,hF.back q5,by rw[List.length_append];simp only[List.length_cons,List.length_nil];omega,Nat.le_refl _⟩
  | trace_state
theorem starts_tot {s0 k s O Fr} (t:Tok) (h:Ly s0 k s O Fr) (hm:O.length+Fr.length≤800000):W (C F0 X0 54 [.ref k 0,t.av] s) fun q=>(∃ b,q.1=.b b)∧∃ O' Fr',Ly s0 k q.2 O' Fr'∧O'.length+Fr'.length≤O.length+Fr.length+2∧wts O'≤wts O:=by
 have hF:=h
 have hc:=h.cnt
 obtain⟨l0,hl0⟩:∃ l0:List Ob,l0=[.cells t.av.cells]:=⟨_,rfl⟩
 have hl0':=hl0
 rw[Tok.cells_eq] at hl0'
 obtain⟨v1,v2,b,l,c,d1,d2,t1,-⟩:=h.tab
 have hset:Ly s0 k (setOb s k (yob v1 v2 false l c)) O Fr:=h.set t1 false l c
 have hk:=h.kl
 have hset1:=hset.ex l0
 obtain⟨u1,u2,b',l',c',e1,e2,e3⟩:=hset1.rd
 obtain⟨m,hcol⟩:=column_tot Fr _ e1 e2 (by omega)
 have mk:∀ (x:List UInt8) {S:St} {O1:List Tok},Ly (ex s0 l0) k S O1 Fr→O1.length+Fr.length≤800001→W (C F0 X0 58 [.ref k 0,.s x] S) fun q=>q.1=.tup []∧∃ t2 y,q.2=ex t2 l0∧wt y=0∧Ly (ex s0 l0) k (ex t2 l0) (O1++[y]) Fr∧Ly s0 k t2 (O1++[y]) Fr∧cnt t2=cnt s:=fun x S O1 hS hO=>by
  refine W.mono (make_tot x hS (by omega)) ?_
  rintro⟨u,S2⟩ ⟨rfl,y,hy,q1⟩
  obtain⟨t2,rfl,q4⟩:=q1.unex h.hk
  exact⟨rfl,t2,y,rfl,hy,q1,q4,q4.cnt.trans hc.symm⟩
 unfold yob at t1 hset hset1 hcol
 rw[hl0'] at mk hset1 hcol
 rw[w_call (f:=54) rfl]
 simp only[go_sem,reduceCtorEq,↓reduceIte,nA,nB,nC,nD,nE,iA,iB,iC,iD,iE,iF,hk,t1]
 repeat' (first
  | (refine W.ifc (fun d=>?_) (fun d=>?_)<;>simp only[go_sem,reduceCtorEq,↓reduceIte,nA,nB,nC,nD,nE,iA,iB,iC,iD,iE,iF,d,hk,hcol])
  |(refine W.step (mk _ hset1 (by omega)) ?_
    rintro⟨u,S2⟩ ⟨rfl,t2,y,rfl,hy,q0,q1,q2⟩
    simp only[go_sem,reduceCtorEq,↓reduceIte,nA,nB,nC,nD,nE,iA,iB,iC,iD,iE,iF,q2])
  |(refine W.step (mk _ q0 (by rw[List.length_append];simp only[List.length_cons,List.length_nil];omega)) ?_
    rintro⟨u,S2⟩ ⟨rfl,t3,y3,rfl,hy3,r0,r1,r2⟩
    simp only[go_sem,reduceCtorEq,↓reduceIte,nA,nB,nC,nD,nE,iA,iB,iC,iD,iE,iF,r2])
  |(refine W.step (lpush_tot _ _ q0 (by omega)) ?_
    rintro⟨u,S2⟩ ⟨rfl,p1⟩
    obtain⟨t3,rfl,p2⟩:=p1.unex h.hk
    have p3:cnt t3=cnt s:=p2.cnt.trans hc.symm
    simp only[go_sem,reduceCtorEq,↓reduceIte,nA,nB,nC,nD,nE,iA,iB,iC,iD,iE,iF,p3]))
 all_goals first
  | exact⟨⟨_,rfl⟩,O,Fr,hset,by omega,Nat.le_refl _⟩
  | exact⟨⟨_,rfl⟩,O,Fr,hF.back hset,by omega,Nat.le_refl _⟩
  | exact⟨⟨_,rfl⟩,_,_,hF.back r1,by rw[List.length_append,List.length_append];simp only[List.length_cons,List.length_nil];omega,by rw[wts_one hy3,wts_one hy];exact Nat.le_refl _⟩
  | exact⟨⟨_,rfl⟩,_,_,hF.back p2,by rw[List.length_append,List.length_append];simp only[List.length_cons,List.length_nil];omega,by rw[wts_one hy];exact Nat.le_refl _⟩
  | trace_state
theorem begins_tot {s0 k s O Fr} (t:Tok) (h:Ly s0 k s O Fr) (hm:O.length+Fr.length≤800000):LT s0 k O Fr 1 (C F0 X0 55 [.ref k 0,t.av] s):=by
 have hF:=h
 have hc:=h.cnt
 obtain⟨l0,hl0⟩:∃ l0:List Ob,l0=[.cells t.av.cells]:=⟨_,rfl⟩
 have hl:=h.ex l0
 have hl0':=hl0
 rw[Tok.cells_eq] at hl0'
 rw[w_call (f:=55) rfl]
 simp only[go_sem,reduceCtorEq,↓reduceIte,nA,nB,nC,nD,nE,iA,iB,iC,iD,iE,iF]
 rw[←hl0']
 refine W.step (W.loop (L:=l55_0) (Q:=fun q=>∃ S O' Fr',q=(.exit 0,[(0,.ref k 0),(3,.ref (cnt s) 0),(13,.b false)],S)∧Ly (ex s0 l0) k S O' Fr'∧O'.length+Fr'.length≤O.length+Fr.length∧wts O'≤wts O) rfl (fun n E S=>∃ O' Fr',n=Fr'.length∧E=[(0,.ref k 0),(3,.ref (cnt s) 0)]∧Ly (ex s0 l0) k S O' Fr'∧O'.length+Fr'.length≤O.length+Fr.length∧wts O'≤wts O) ?_ Fr.length _ _ ⟨O,Fr,rfl,rfl,hl,Nat.le_refl _,Nat.le_refl _⟩) ?_
 ·rintro n E S ⟨O',Fr',rfl,rfl,hS,hO,hw⟩
  obtain⟨v1,v2,b,l,c,t1,t2,t3⟩:=hS.rd
  have hk:=hS.kl
  have hcS:cnt S=cnt s+1:=by rw[hS.cnt,ex_cnt,hc,hl0];rfl
  have tc:obj S (cnt s)=some (.cells t.av.cells):=by rw[hS.oth _ (by have:=h.hk;omega),hc,ex_obj0,hl0];rfl
  have lc:=obj_lt tc
  rw[Tok.cells_eq] at tc
  obtain⟨m,hin,hbm⟩:=inLaid_tot Fr' S t1 t2 (by omega)
  obtain⟨cl,hcol⟩:=column_tot Fr' S t1 t2 (by omega)
  have hblk:=block_tot Fr' S t1 t2 (by omega)
  have hlt:=@blk_lt Fr' Fr'.length
  have t1':=t1
  unfold yob at t1'
  simp only[go_sem,reduceCtorEq,↓reduceIte,nA,nB,nC,nD,nE,iA,iB,iC,iD,iE,iF,hin]
  cases m with
  | false =>
   simp only[go_sem,reduceCtorEq,↓reduceIte,nA,nB,nC,nD,nE,iA,iB,iC,iD,iE,iF]
   exact⟨S,O',Fr',rfl,hS,hO,hw⟩
  | true =>
   have h0:=hbm rfl
   obtain⟨i,hi⟩:∃ i:Nat,blk Fr' Fr'.length=(i:Int):=⟨(blk Fr' Fr'.length).toNat,by omega⟩
   rw[hi] at hblk
   obtain⟨v',f1,f2,f3,f4⟩:=hS.cut t1 (n:=i) (by omega)
   unfold yob at f4
   simp only[go_sem,reduceCtorEq,↓reduceIte,nA,nB,nC,nD,nE,iA,iB,iC,iD,iE,iF,tc,lc,hcol]
   refine W.ifc (fun d=>?_) (fun d=>?_)
   · simp only[go_sem,reduceCtorEq,↓reduceIte,nA,nB,nC,nD,nE,iA,iB,iC,iD,iE,iF,d,hk,t1',hblk,f1,f2,f3]
     refine W.step (make_tot [125] f4 (by omega)) ?_
     rintro⟨u,S2⟩ ⟨rfl,y,hy,h2⟩
     simp only[go_sem,reduceCtorEq,↓reduceIte,nA,nB,nC,nD,nE,iA,iB,iC,iD,iE,iF]
     exact⟨i,by omega,_,Fr'.take i,by rw[List.length_take];omega,h2,by rw[List.length_take,List.length_append];simp only[List.length_cons,List.length_nil];omega,by rw[wts_one hy];exact hw⟩
   · simp only[go_sem,reduceCtorEq,↓reduceIte,nA,nB,nC,nD,nE,iA,iB,iC,iD,iE,iF,d]
     exact⟨S,O',Fr',rfl,hS,hO,hw⟩
 ·rintro q ⟨S,O',Fr',rfl,hS,hO,hw⟩
  obtain⟨v1,v2,b,l,c,t1,t2,t3⟩:=hS.rd
  have hcS:cnt S=cnt s+1:=by rw[hS.cnt,ex_cnt,hc,hl0];rfl
  have tc:obj S (cnt s)=some (.cells t.av.cells):=by rw[hS.oth _ (by have:=h.hk;omega),hc,ex_obj0,hl0];rfl
  have lc:=obj_lt tc
  rw[Tok.cells_eq] at tc
  obtain⟨m,hin,hbm⟩:=inLaid_tot Fr' S t1 t2 (by omega)
  obtain⟨cl,hcol⟩:=column_tot Fr' S t1 t2 (by omega)
  have fin:∃ t2,S=ex t2 l0∧Ly s0 k t2 O' Fr'∧cnt t2=cnt s:=by
   obtain⟨T,e,q⟩:=hS.unex h.hk
   exact⟨T,e,q,q.cnt.trans hc.symm⟩
  obtain⟨T,hT,hT2,hT3⟩:=fin
  have hcut:∀ v:AV,v.low (cnt s)=true→cut (cnt s) v S=T:=fun v hv=>by rw[hT];exact ex_cut' hT3 hv
  have hct:=hcut (.tup []) rfl
  simp only[go_sem,reduceCtorEq,↓reduceIte,nA,nB,nC,nD,nE,iA,iB,iC,iD,iE,iF,hin]
  cases m with
  | false =>
   simp only[go_sem,reduceCtorEq,↓reduceIte,nA,nB,nC,nD,nE,iA,iB,iC,iD,iE,iF,hct]
   exact⟨O',Fr',hF.back hT2,by omega,hw⟩
  | true =>
   simp only[go_sem,reduceCtorEq,↓reduceIte,nA,nB,nC,nD,nE,iA,iB,iC,iD,iE,iF,tc,lc,hcol]
   refine W.ifc (fun d=>?_) (fun d=>?_)
   · simp only[go_sem,reduceCtorEq,↓reduceIte,nA,nB,nC,nD,nE,iA,iB,iC,iD,iE,iF,d]
     refine W.step (make_tot [59] hS (by omega)) ?_
     rintro⟨u,S2⟩ ⟨rfl,y,hy,h2⟩
     obtain⟨t2,rfl,q⟩:=h2.unex h.hk
     have q2:cnt t2=cnt s:=q.cnt.trans hc.symm
     simp only[go_sem,reduceCtorEq,↓reduceIte,nA,nB,nC,nD,nE,iA,iB,iC,iD,iE,iF,q2]
     exact⟨_,Fr',hF.back q,by rw[List.length_append];simp only[List.length_cons,List.length_nil];omega,by rw[wts_one hy];exact hw⟩
   · simp only[go_sem,reduceCtorEq,↓reduceIte,nA,nB,nC,nD,nE,iA,iB,iC,iD,iE,iF,d,hct]
     exact⟨O',Fr',hF.back hT2,by omega,hw⟩
def pos0:List UInt8:=[]
theorem Lay_tot (ts:List Tok) (hts:ts.length≤100000) (s:St):∃ O:List Tok,O.length≤5*ts.length+2∧wts O≤wts ts∧C F0 X0 28 [toks ts] s=some (toks O,s):=by
 suffices h:W (C F0 X0 28 [toks ts] s) fun q=>∃ O:List Tok,O.length≤5*ts.length+2∧wts O≤wts ts∧q=(toks O,s) by
  obtain⟨r,h1,O,h2,h3,rfl⟩:=h;exact⟨O,h2,h3,h1⟩
 rw[w_call (f:=28) rfl]
 unfold toks
 simp only[go_sem,reduceCtorEq,↓reduceIte,nA,nB,nC,nD,nE,iA,iB,iC,iD,iE,iF]
 obtain⟨s0,hs0⟩:∃ s0,s0=ex s [yob .nsl .nsl true 1 1]:=⟨_,rfl⟩
 have hc0:cnt s0=cnt s+1:=by rw[hs0,ex_cnt];rfl
 have Z:Ly s0 (cnt s) s0 [] []:=⟨rfl,fun _ _=>rfl,by omega,Old.refl,Nat.le_refl _,.nsl,.nsl,true,1,1,none,none,by rw[hs0,ex_obj0];rfl,Gr.nil,Gr.nil,(fun a h=>nomatch h),fun _=>rfl,(fun a h=>nomatch h),(fun a h=>nomatch h)⟩
 have hs0':ex s [Ob.cells [AV.nsl,AV.nsl,AV.b true,AV.i IntKind.i64 1,AV.i IntKind.i64 1]]=s0:=hs0.symm
 rw[hs0']
 refine W.step (W.range (n:=ts.length) (Q:=fun q=>∃ E t O Fr,q=(.exit 0,E,t)∧get E 3=some (.ref (cnt s) 0)∧Ly s0 (cnt s) t O Fr∧O.length+Fr.length≤5*ts.length∧wts O≤wts ts) (L:=l28_0) rfl (fun i E t=>∃ O Fr ln,E=[(3,.ref (cnt s) 0),(4,.i .i64 ln),(12,lst (.st 6) (ts.map Tok.av)),(13,.i .i64 (ts.length:Int)),(14,.i .i64 (i:Int))]∧Ly s0 (cnt s) t O Fr∧O.length+Fr.length≤5*i∧wts O≤wts (ts.take i)) ?_ ?_ 0 _ _ (Nat.zero_le _) ⟨[],[],0,rfl,Z,Nat.le_refl _,Nat.le_refl _⟩) ?_
 ·rintro i E t ⟨O,Fr,ln,rfl,ht,hO,hw⟩ hi
  have h0:=List.getElem?_eq_getElem hi
  generalize ts[i]=x at h0
  have g1:∀ k,aiad (.st 6) (lst (.st 6) (ts.map Tok.av)) (.i k (i:Int))=some (.ep x.av.cells 0):=fun k=>lst_iad rfl (by rw[List.getElem?_map,h0];rfl)
  have g3:decide ((i:Int)<(ts.length:Int))=true:=by simp;omega
  have g5:=@wrap_one i (by omega)
  have hct:cnt t=cnt s+1:=ht.cnt.trans hc0
  have hwx:wts (ts.take (i+1))=wts (ts.take i)+wt x:=by rw[List.take_add_one,h0,wts_app];rfl
  obtain⟨v1,v2,b,l,c,t1,t2,t3⟩:=ht.rd
  have lk:=obj_lt t1
  have hset:=(ht.set t1 b x.line x.col).ex [.cells x.av.cells]
  have at1:∀ {S O Fr},Ly (ex s0 [.cells x.av.cells]) (cnt s) S O Fr→obj S (cnt s+1)=some (.cells [.i .i64 x.kind,.s x.text,.i .i64 x.n,.i .i64 (x.line:Int),.i .i64 (x.col:Int),.b x.made])∧cnt S=cnt s+2:=fun h=>⟨(h.oth _ (by omega)).trans (by rw[ex_obj0' hc0,Tok.cells_eq];rfl),by rw[h.cnt,ex_cnt,hc0];rfl⟩
  have hend:∀ {S O Fr},Ly (ex s0 [.cells x.av.cells]) (cnt s) S O Fr→Ly s0 (cnt s) (tk (cnt s+1) S) O Fr:=fun h=>by
   obtain⟨T,rfl,q⟩:=h.unex (by omega)
   rw[ex_tk' (q.cnt.trans hc0)]
   exact q
  unfold yob at t1
  rw[Tok.cells_eq] at hset
  unfold yob at hset
  have fin:∀ {S O' Fr'},Ly (ex s0 [.cells x.av.cells]) (cnt s) S O' Fr'→O'.length+Fr'.length≤5*(i+1)→wts O'≤wts (ts.take (i+1))→∃ O Fr ln',[(3,AV.ref (cnt s) 0),(4,.i .i64 (x.line:Int)),(12,lst (.st 6) (ts.map Tok.av)),(13,.i .i64 (ts.length:Int)),(14,.i .i64 ((i+1:Nat):Int))]=[(3,AV.ref (cnt s) 0),(4,.i .i64 ln'),(12,lst (.st 6) (ts.map Tok.av)),(13,.i .i64 (ts.length:Int)),(14,.i .i64 ((i+1:Nat):Int))]∧Ly s0 (cnt s) (tk (cnt s+1) S) O Fr∧O.length+Fr.length≤5*(i+1)∧wts O≤wts (ts.take (i+1)):=fun h h2 h3=>⟨_,_,_,rfl,hend h,h2,h3⟩
  have app:∀ {S O' Fr'},Ly (ex s0 [.cells x.av.cells]) (cnt s) S O' Fr'→O'.length+Fr'.length≤700000→∃ v1 v2 b l c v' A' N',obj S (cnt s)=some (.cells [v1,v2,.b b,.i .i64 (l:Nat),.i .i64 (c:Nat)])∧cnt s<cnt S∧agrow (newAr S [.i .i64 x.kind,.s x.text,.i .i64 x.n,.i .i64 (x.line:Int),.i .i64 (x.col:Int),.b x.made]) (.st 6) 1 [.i .i64 x.kind,.s x.text,.i .i64 x.n,.i .i64 (x.line:Int),.i .i64 (x.col:Int),.b x.made] v1=some (v',wa S A' N')∧v'.cells=[v']∧(∀ n,v'.low n=true)∧Ly (ex s0 [.cells x.av.cells]) (cnt s) (wa (setOb S (cnt s) (.cells [v',v2,.b b,.i .i64 (l:Nat),.i .i64 (c:Nat)])) A' N') (O'++[x]) Fr':=fun h hb=>by
   obtain⟨v1,v2,b,l,c,d1,d2,t1,-⟩:=h.tab
   obtain⟨v',A',N',k1,k2,k3,k4⟩:=h.push1 t1 x (by omega)
   have:=k1 []
   rw[ex_nil,Tok.cells_eq] at this
   exact⟨v1,v2,b,l,c,v',A',N',t1,h.kl,this,k2,k3,k4⟩
  cases b
  all_goals
   simp only[go_sem,reduceCtorEq,↓reduceIte,nA,nB,nC,nD,nE,iA,iB,iC,iD,iE,iF,g1,g3,hct,lk,t1,Nat.le_refl]
   repeat' (first
     | (refine W.ifc (fun d=>?_) (fun d=>?_)<;>first|simp only[go_sem,reduceCtorEq,↓reduceIte,nA,nB,nC,nD,nE,iA,iB,iC,iD,iE,iF,d,hct,lk,z1,z2,z3]|simp only[go_sem,reduceCtorEq,↓reduceIte,nA,nB,nC,nD,nE,iA,iB,iC,iD,iE,iF,d,hct,lk])
     |(refine W.step (starts_tot x hset (by omega)) ?_
       rintro⟨u,S1⟩ ⟨⟨bb,rfl⟩,O1,F1,p1,p2,p3⟩
       replace p1:Ly _ _ S1 _ _:=p1
       obtain⟨z1,z2⟩:=at1 p1
       have z3:cnt s+1<cnt S1:=by omega
       simp only[go_sem,reduceCtorEq,↓reduceIte,nA,nB,nC,nD,nE,iA,iB,iC,iD,iE,iF,z1,z2,z3])
     |(refine W.step (begins_tot x p1 (by omega)) ?_
       rintro⟨u,S2⟩ ⟨rfl,O2,F2,q1,q2,q3⟩
       replace q1:Ly _ _ S2 _ _:=q1
       obtain⟨z1,z2⟩:=at1 q1
       have z3:cnt s+1<cnt S2:=by omega
       simp only[go_sem,reduceCtorEq,↓reduceIte,nA,nB,nC,nD,nE,iA,iB,iC,iD,iE,iF,z1,z2,z3])
     |(refine W.step (begins_tot x hset (by omega)) ?_
       rintro⟨u,S2⟩ ⟨rfl,O2,F2,q1,q2,q3⟩
       replace q1:Ly _ _ S2 _ _:=q1
       obtain⟨z1,z2⟩:=at1 q1
       have z3:cnt s+1<cnt S2:=by omega
       simp only[go_sem,reduceCtorEq,↓reduceIte,nA,nB,nC,nD,nE,iA,iB,iC,iD,iE,iF,z1,z2,z3])
     |(refine W.step (closes_tot x (by first|exact q1|exact p1|exact hset) (by omega)) ?_
       rintro⟨u,S3⟩ ⟨rfl,O3,F3,r1,r2,r3⟩
       replace r1:Ly _ _ S3 _ _:=r1
       obtain⟨z1,z2⟩:=at1 r1
       obtain⟨w1,w2,wb,wl,wc,w',A',N',y1,y2,y3,y4,y5,y6⟩:=app r1 (by omega)
       have y7:∀ o,obj (setOb S3 (cnt s) o) (cnt s+1)=obj S3 (cnt s+1):=fun o=>obj_set' (by omega)
       simp only[go_sem,reduceCtorEq,↓reduceIte,nA,nB,nC,nD,nE,iA,iB,iC,iD,iE,iF,z1,z2,y1,y2,y3,y4,y5,y7])
     |(refine W.step (opens_tot x y6 (by rw[List.length_append];simp only[List.length_cons,List.length_nil];omega)) ?_
       rintro⟨u,S4⟩ ⟨rfl,O4,F4,x1,x2,x3⟩
       replace x1:Ly _ _ S4 _ _:=x1
       obtain⟨z1,z2⟩:=at1 x1
       rw[List.length_append,List.length_cons,List.length_nil] at x2
       rw[wts_app] at x3
       simp only[go_sem,reduceCtorEq,↓reduceIte,nA,nB,nC,nD,nE,iA,iB,iC,iD,iE,iF,z2,g5]))
  all_goals have wtx:wts [x]=wt x:=by simp[wts]
  all_goals exact fin x1 (by omega) (by rw[hwx];omega)
 ·rintro E t ⟨O,Fr,ln,rfl,ht,hO,hw⟩
  have g3:decide ((ts.length:Int)<(ts.length:Int))=false:=by simp
  have hct:cnt t=cnt s+1:=ht.cnt.trans hc0
  rw[List.take_length] at hw
  simp only[go_sem,reduceCtorEq,↓reduceIte,nA,nB,nC,nD,nE,iA,iB,iC,iD,iE,iF,g3,hct]
  exact⟨_,_,O,Fr,rfl,rfl,ht,hO,hw⟩
 ·rintro q ⟨Ev,t,O,Fr,rfl,e3,ht,hO,hw⟩
  obtain⟨v1,v2,b,l,c,t1,t2,t3⟩:=ht.rd
  have lk:=obj_lt t1
  unfold yob at t1
  have main:∀ (t:St) (O:List Tok),Ly s0 (cnt s) t O Fr→O.length+Fr.length≤5*ts.length+2→wts O≤wts ts→W ((E F0 X0 (cnt s) l28_1 [(3,.ref (cnt s) 0),(8,.i .i64 ((Fr.length:Int) - 1))] t)) fun q=>∃ E t2 O2 Fr2,q=(.exit 2,E,t2)∧get E 3=some (.ref (cnt s) 0)∧Ly s0 (cnt s) t2 O2 Fr2∧O2.length≤5*ts.length+2∧wts O2≤wts ts:=by
   intro t O ht hO hw
   refine W.loop (L:=l28_1) rfl (fun n E t=>n≤Fr.length∧E=[(3,.ref (cnt s) 0),(8,.i .i64 ((n:Int) - 1))]∧∃ O,Ly s0 (cnt s) t O Fr∧O.length+n≤5*ts.length+2∧wts O≤wts ts) ?_ Fr.length _ _ ⟨Nat.le_refl _,rfl,O,ht,hO,hw⟩
   rintro n E t ⟨hn,rfl,O,ht,hO,hw⟩
   obtain⟨v1,v2,b,l,c,t1,t2,t3⟩:=ht.rd
   have lk:=obj_lt t1
   unfold yob at t1
   cases n with
   | zero =>
     have h0:decide ((0:Int) - 1≥0)=false:=by decide
     simp only[go_sem,reduceCtorEq,↓reduceIte,nA,nB,nC,nD,nE,iA,iB,iC,iD,iE,iF,h0]
     exact⟨_,t,O,Fr,rfl,rfl,ht,by omega,hw⟩
   | succ n =>
     have h0:decide (((n+1:Nat):Int) - 1≥0)=true:=decide_eq_true (by omega)
     have h1:(((n+1:Nat):Int) - 1)=(n:Int):=by omega
     have hw2:IntKind.i64.wrap ((n:Int) - 1)=(n:Int) - 1:=(wrap_dn (by omega)).2
     obtain⟨p,p1,g1,g2,g3,-⟩:=rowat t2 (i:=n) (by omega)
     have g3':=g3 t rfl
     rw[h1] at h0 ⊢
     simp only[go_sem,reduceCtorEq,↓reduceIte,nA,nB,nC,nD,nE,iA,iB,iC,iD,iE,iF,h0,lk,t1,g1,g2,g3']
     refine W.ifc (fun d=>?_) (fun d=>?_)
     ·simp only[go_sem,reduceCtorEq,↓reduceIte,nA,nB,nC,nD,nE,iA,iB,iC,iD,iE,iF,d]
      refine W.step (make_tot [125] ht (by omega)) ?_
      rintro⟨u,S2⟩ ⟨rfl,y,hy,h2⟩
      replace h2:Ly _ _ S2 _ _:=h2
      simp only[go_sem,reduceCtorEq,↓reduceIte,nA,nB,nC,nD,nE,iA,iB,iC,iD,iE,iF,hw2]
      exact⟨n,Nat.lt_succ_self _,by omega,rfl,_,h2,by rw[List.length_append];simp only[List.length_cons,List.length_nil];omega,by rw[wts_one hy];exact hw⟩
     ·simp only[go_sem,reduceCtorEq,↓reduceIte,nA,nB,nC,nD,nE,iA,iB,iC,iD,iE,iF,d,hw2]
      exact⟨n,Nat.lt_succ_self _,by omega,rfl,O,ht,by omega,hw⟩
  have hwl:IntKind.i64.wrap ((Fr.length:Int) - 1)=(Fr.length:Int) - 1:=(wrap_dn (by omega)).2
  cases b with
  | false =>
   simp only[go_sem,reduceCtorEq,↓reduceIte,nA,nB,nC,nD,nE,iA,iB,iC,iD,iE,iF,e3,lk,t1]
   simp only[go_sem,reduceCtorEq,↓reduceIte,nA,nB,nC,nD,nE,iA,iB,iC,iD,iE,iF,lk,t1,t3,hwl]
   refine W.step (main _ _ ht (by omega) hw) ?_
   rintro q ⟨E2,S3,O3,F3,rfl,e4,h5,hO3,hw3⟩
   obtain⟨x1,x2,xb,xl,xc,d1,d2,z1,z2,z3,z4,z5,z6,z7⟩:=h5.tab
   have lk3:=obj_lt z1
   unfold yob at z1
   obtain⟨A',f1,f2⟩:=z2.fin (fun hn=>z5 (List.map_eq_nil_iff.1 hn))
   have hcS:cnt S3=cnt s+1:=h5.cnt.trans hc0
   have f1':frz 20000 x1 S3=some (lst (.st 6) (O3.map Tok.av),wa S3 A' S3.nxt):=f1 19998 S3
   have hcut:cut (cnt s) (lst (.st 6) (O3.map Tok.av)) S3=wa s S3.arr S3.nxt:=cut_eq lst_low (by omega) (fun r hr=>(h5.oth r (by omega)).trans (by rw[hs0,ex_old hr]))
   simp only[go_sem,reduceCtorEq,↓reduceIte,nA,nB,nC,nD,nE,iA,iB,iC,iD,iE,iF,e4,lk3,z1,f1',hcut]
   refine⟨O3,hO3,hw3,?_⟩
   rw[back_wa (fun a ha=>?_) lst_alow]
   have hx0:s0.nxt=s.nxt:=by rw[hs0];rfl
   have hx:A' a=S3.arr a:=f2 a (fun hd=>by have:=z6 a hd;omega)
   exact hx.trans ((h5.old a (by rw[hs0];exact ha)).trans (by rw[hs0];rfl))
  | true =>
   simp only[go_sem,reduceCtorEq,↓reduceIte,nA,nB,nC,nD,nE,iA,iB,iC,iD,iE,iF,e3,lk,t1]
   refine W.step (make_tot [123] ht (by omega)) ?_
   rintro⟨u,S1⟩ ⟨rfl,y,hy,h1⟩
   replace h1:Ly _ _ S1 _ _:=h1
   simp only[go_sem,reduceCtorEq,↓reduceIte,nA,nB,nC,nD,nE,iA,iB,iC,iD,iE,iF]
   refine W.step (make_tot [125] h1 (by rw[List.length_append];simp only[List.length_cons,List.length_nil];omega)) ?_
   rintro⟨u,S2⟩ ⟨rfl,y',hy',h2⟩
   replace h2:Ly _ _ S2 _ _:=h2
   obtain⟨w1,w2,wb,wl,wc,y1,y2,y3⟩:=h2.rd
   have lk2:=obj_lt y1
   unfold yob at y1
   simp only[go_sem,reduceCtorEq,↓reduceIte,nA,nB,nC,nD,nE,iA,iB,iC,iD,iE,iF,e3,lk2,y1,y3,hwl]
   refine W.step (main _ _ h2 (by rw[List.length_append,List.length_append];simp only[List.length_cons,List.length_nil];omega) (by rw[wts_one hy',wts_one hy];exact hw)) ?_
   rintro q ⟨E2,S3,O3,F3,rfl,e4,h5,hO3,hw3⟩
   obtain⟨x1,x2,xb,xl,xc,d1,d2,z1,z2,z3,z4,z5,z6,z7⟩:=h5.tab
   have lk3:=obj_lt z1
   unfold yob at z1
   obtain⟨A',f1,f2⟩:=z2.fin (fun hn=>z5 (List.map_eq_nil_iff.1 hn))
   have hcS:cnt S3=cnt s+1:=h5.cnt.trans hc0
   have f1':frz 20000 x1 S3=some (lst (.st 6) (O3.map Tok.av),wa S3 A' S3.nxt):=f1 19998 S3
   have hcut:cut (cnt s) (lst (.st 6) (O3.map Tok.av)) S3=wa s S3.arr S3.nxt:=cut_eq lst_low (by omega) (fun r hr=>(h5.oth r (by omega)).trans (by rw[hs0,ex_old hr]))
   simp only[go_sem,reduceCtorEq,↓reduceIte,nA,nB,nC,nD,nE,iA,iB,iC,iD,iE,iF,e4,lk3,z1,f1',hcut]
   refine⟨O3,hO3,hw3,?_⟩
   rw[back_wa (fun a ha=>?_) lst_alow]
   have hx0:s0.nxt=s.nxt:=by rw[hs0];rfl
   have hx:A' a=S3.arr a:=f2 a (fun hd=>by have:=z6 a hd;omega)
   exact hx.trans ((h5.old a (by rw[hs0];exact ha)).trans (by rw[hs0];rfl))
end Go.Am
namespace Go.Am
open Go
theorem ends_w {p:PS} {s:St} {k:Nat} (ho:obj s k=some p.ob):W (C F0 X0 16 [.ref k 0] s) fun q=>∃ p':PS,q=(.tup [],setOb s k p'.ob)∧p.le p'∧p'.m≤p.m∧(p'.bad=false→p.bad=false):=by
 have hk:=obj_lt ho
 have ho2:=ho
 have hsid:=set_id ho
 unfold PS.ob at ho2
 rw[w_call (f:=16) rfl]
 simp only[go_sem,reduceCtorEq,↓reduceIte,nA,nB,nC,nD,nE,iA,iB,iC,iD,iE,iF,hk,ho2]
 repeat' (first
   | (refine W.ifc (fun d=>?_) (fun d=>?_)<;>(try have dl:=PS.is_lv d)<;>(try have dl:=PS.isk_lv d (by decide))<;>(try have dl:=a1 d)<;>(try have dl:=PS.peek_lv d (by decide))<;>(try have dm:=PS.m_ok d)<;>(try have dm:=PS.m_bad d)<;>simp only[go_sem,reduceCtorEq,↓reduceIte,nA,nB,nC,nD,nE,iA,iB,iC,iD,iE,iF,d,hk,Bool.true_or,Bool.false_or,Bool.false_and,Bool.true_and,ho2])
   | (refine W.step (is_w _ (by simp only[go_sem,hk,ho]<;>rfl)) ?_;rintro _ rfl;simp only[go_sem,reduceCtorEq,↓reduceIte,nA,nB,nC,nD,nE,iA,iB,iC,iD,iE,iF,hk,ho2])
   | (refine W.step (isk_w _ (by simp only[go_sem,hk,ho]<;>rfl)) ?_;rintro _ rfl;simp only[go_sem,reduceCtorEq,↓reduceIte,nA,nB,nC,nD,nE,iA,iB,iC,iD,iE,iF,hk,ho2])
   | (refine W.step (peek_w (by simp only[go_sem,hk,ho]<;>rfl)) ?_;rintro _ rfl;simp only[go_sem,reduceCtorEq,↓reduceIte,nA,nB,nC,nD,nE,iA,iB,iC,iD,iE,iF,hk,ho2])
   | (refine W.step (next_w (by simp only[go_sem,hk,ho]<;>rfl)) ?_;rintro _ ⟨p2,rfl,a1,a2,a3⟩;simp only[go_sem,reduceCtorEq,↓reduceIte,nA,nB,nC,nD,nE,iA,iB,iC,iD,iE,iF,hk,ho2])
   | (refine W.step (minus_w (by simp only[go_sem,hk,ho]<;>rfl)) ?_;rintro _ ⟨p2,rfl,a1,a2,a3⟩;simp only[go_sem,reduceCtorEq,↓reduceIte,nA,nB,nC,nD,nE,iA,iB,iC,iD,iE,iF,hk,ho2])
   | (refine W.step (plain_w (by simp only[go_sem,hk,ho]<;>rfl)) ?_;rintro _ ⟨p2,n2,l2,c2,rfl,a1,a2⟩;simp only[go_sem,reduceCtorEq,↓reduceIte,nA,nB,nC,nD,nE,iA,iB,iC,iD,iE,iF,hk,ho2])
   | (refine W.step (number_w (by simp only[go_sem,hk,ho]<;>rfl)) ?_;rintro _ ⟨p2,n2,l2,c2,rfl,a1,a2⟩;simp only[go_sem,reduceCtorEq,↓reduceIte,nA,nB,nC,nD,nE,iA,iB,iC,iD,iE,iF,hk,ho2])
   | (refine W.step (ahead_w _ _ (by simp only[go_sem,hk,ho]<;>rfl)) ?_;rintro _ ⟨b2,rfl,a1⟩;simp only[go_sem,reduceCtorEq,↓reduceIte,nA,nB,nC,nD,nE,iA,iB,iC,iD,iE,iF,hk,ho2])
   | (refine W.step (pattern_w (by simp only[go_sem,hk,ho]<;>rfl)) ?_;rintro _ ⟨b2,rfl,a1⟩;simp only[go_sem,reduceCtorEq,↓reduceIte,nA,nB,nC,nD,nE,iA,iB,iC,iD,iE,iF,hk,ho2])
   | (refine W.step (argument_w (by simp only[go_sem,hk,ho]<;>rfl)) ?_;rintro _ ⟨b2,rfl,a1⟩;simp only[go_sem,reduceCtorEq,↓reduceIte,nA,nB,nC,nD,nE,iA,iB,iC,iD,iE,iF,hk,ho2])
   | (refine W.step (atomic_w (by simp only[go_sem,hk,ho]<;>rfl)) ?_;rintro _ ⟨b2,rfl,a1⟩;simp only[go_sem,reduceCtorEq,↓reduceIte,nA,nB,nC,nD,nE,iA,iB,iC,iD,iE,iF,hk,ho2])
   | (refine W.step (operator_w (by simp only[go_sem,hk,ho]<;>rfl)) ?_;rintro _ ⟨b2,rfl,a1⟩;simp only[go_sem,reduceCtorEq,↓reduceIte,nA,nB,nC,nD,nE,iA,iB,iC,iD,iE,iF,hk,ho2])
   | (refine W.step (text_w _ (by simp only[go_sem,hk,ho]<;>rfl)) ?_;rintro _ ⟨p2,x2,rfl,a1,a2,a3⟩;simp only[go_sem,reduceCtorEq,↓reduceIte,nA,nB,nC,nD,nE,iA,iB,iC,iD,iE,iF,hk,ho2])
   | (refine W.step (want_w _ (by decide) (by simp only[go_sem,hk,ho]<;>rfl)) ?_;rintro _ ⟨p2,x2,rfl,a1,a2,a3⟩;simp only[go_sem,reduceCtorEq,↓reduceIte,nA,nB,nC,nD,nE,iA,iB,iC,iD,iE,iF,hk,ho2])
   | (refine W.step (fails_w _ (by simp only[go_sem,hk,ho]<;>rfl)) ?_;rintro _ ⟨p2,rfl,a1,a2,a3,a4⟩;simp only[go_sem,reduceCtorEq,↓reduceIte,nA,nB,nC,nD,nE,iA,iB,iC,iD,iE,iF,hk,ho2]))
 ·have hbb:p.bad=true:=by assumption
  exact⟨p,by rw[hsid],PS.le_refl,Nat.le_refl _,fun h=>by rw[hbb] at h;cases h⟩
 ·exact⟨_,rfl,(by repeat (first|exact PS.le_refl|assumption|(apply PS.le_trans;assumption))),by omega⟩
 ·exact⟨p,by rw[hsid],PS.le_refl,Nat.le_refl _⟩
theorem tokensN_len:∀ (n:Nat) (r:RS) (l l':List Tok),l.length≤2048→tokensN n r l=.ok l'→l'.length≤2048
 | 0,r,l,l',h,he=>by rw[tokensN] at he;injection he with he;subst he;exact h
 | n+1,r,l,l',h,he=>by
  rw[tokensN] at he
  dsimp only at he
  by_cases h1:r.skip.i<r.skip.src.length
  ·rw[if_pos h1] at he
   by_cases h3:l.length<2048
   ·have h4:decide ((l.length:Int)≥2048)=false:=by simp;omega
    rw[h4,Bool.and_false] at he
    simp only[Bool.false_eq_true,if_false] at he
    split at he
    ·cases he
    ·exact tokensN_len n _ _ _ (by simp;omega) he
   ·have h4:decide ((l.length:Int)≥2048)=true:=by simp;omega
    rw[h4,Bool.and_true] at he
    by_cases h5:r.skip.next.1.2=0
    ·simp[h5] at he
    ·simp[h5] at he
  ·rw[if_neg h1] at he;injection he with he;subst he;exact h
theorem tokensOf_len (t:List UInt8):(tokensOf t).1.length≤2048:=by
 unfold tokensOf
 split
 ·simp
 ·split
  ·rename_i h;exact tokensN_len _ _ _ _ (by simp) h
  ·simp
theorem wts_len:∀ l:List Tok,wts l≤l.length
 | []=>Nat.le_refl _
 | x::xs=>by
  have:=wts_len xs
  have h:wt x≤1:=by unfold wt;split<;>omega
  show wt x+wts xs≤xs.length+1
  omega
theorem lay_w (ts:List Tok) (hts:ts.length≤100000) (s:St):W (C F0 X0 28 [toks ts] s) fun q=>∃ O:List Tok,q=(toks O,s)∧O.length≤5*ts.length+2∧wts O≤wts ts:=by
 obtain⟨O,h1,h2,h3⟩:=Lay_tot ts hts s
 exact W.of h3 ⟨O,rfl,h1,h2⟩
theorem begin_w (t:List UInt8) (s:St):W (C F0 X0 11 [.s t] s) fun q=>∃ (p:PS) (f:Fault),q=(.ref (cnt s+1) 0,ex s [.cells [.i .i64 f.err,.i .i64 f.line,.i .i64 f.col],p.ob])∧p.w≤2048:=by
 have hlen:=tokensOf_len t
 have hfl:∀ f:Fault,f.av=.agg [.i .i64 f.err,.i .i64 f.line,.i .i64 f.col]:=fun _=>rfl
 have hw:=wts_len (tokensOf t).1
 have htl:∀ l n,AV.low n (toks l)=true:=fun _ _=>lst_low
 have htc:∀ l,AV.cells (toks l)=[toks l]:=fun _=>lst_cells
 have hbc:∀ l,back s (.ref (cnt s+1) 0) (cut (cnt s) (.ref (cnt s+1) 0) (ex s l))=ex s l:=fun l=>by
  have h1:cut (cnt s) (.ref (cnt s+1) 0) (ex s l)=ex s l:=if_neg (by show ¬ decide (cnt s+1<cnt s)=true;simp)
  rw[h1]
  rcases back_or s (.ref (cnt s+1) 0) (ex s l) with h|h<;>rw[h]
  rfl
 rw[w_call (f:=11) rfl]
 simp only[go_sem,reduceCtorEq,↓reduceIte,nA,nB,nC,nD,nE,iA,iB,iC,iD,iE,iF,hfl,htl]
 repeat' (refine W.ifc (fun d=>?_) (fun d=>?_)<;>simp only[go_sem,reduceCtorEq,↓reduceIte,nA,nB,nC,nD,nE,iA,iB,iC,iD,iE,iF,d,htl])
 ·rw[hbc]
  exact⟨⟨[],0,true,_,_,_,Nat.le_refl _,by simp⟩,(tokensOf t).2,rfl,by simp[PS.w,wts]⟩
 ·refine W.step (lay_w _ (by omega) _) ?_
  rintro _ ⟨O,rfl,h1,h2⟩
  simp only[go_sem,reduceCtorEq,↓reduceIte,nA,nB,nC,nD,nE,iA,iB,iC,iD,iE,iF,htl,htc]
  rw[hbc]
  exact⟨⟨O,0,false,_,_,_,Nat.zero_le _,by omega⟩,(tokensOf t).2,rfl,by show wts (O.drop 0)≤2048;rw[List.drop_zero];omega⟩
end Go.Am
namespace Go.Am
open Go
def Fn (s0:St) (D:Nat→Prop) (k:Nat) (s:St) (B O:List Str):Prop :=
 ∃ v1 v2 A N d1 d2,s=wa (setOb s0 k (.cells [v1,v2])) A N∧k<cnt s0∧Gr A N .one v1 (strs B) d1∧Gr A N .one v2 (strs O) d2∧(∀ a,d1=some a→d2≠some a)∧(O=[]→v2=.nsl)∧s0.nxt≤N ∧
  (∀ a,a<s0.nxt→¬ D a→A a=s0.arr a)∧(∀ a,d1=some a→D a∨s0.nxt≤a)∧(∀ a,d2=some a→D a∨s0.nxt≤a)
theorem Fn.back {s0 D k s B O s' B' O' v} (h:Fn s0 D k s B O) (h':Fn s0 D k s' B' O'):Fn s0 D k (back s v s') B' O':=by
 unfold Am.back
 split
 ·rename_i hc
  obtain⟨v1,v2,A,N,d1,d2,rfl,hk,g1,g2,sp,z,n0,fr,m1,m2⟩:=h
  obtain⟨v1',v2',A',N',d1',d2',rfl,hk',g1',g2',sp',z',n0',fr',m1',m2'⟩:=h'
  obtain⟨c1,c2,c3⟩:=hc
  have hlow:v1'.alow N=true∧v2'.alow N=true:=by
   have e1:(wa (setOb s0 k (.cells [v1',v2'])) A' N').objs[k]?=some (.cells [v1',v2']):=obj_set (s:=s0) hk
   have e2:(wa (setOb s0 k (.cells [v1,v2])) A N).objs[k]?=some (.cells [v1,v2]):=obj_set (s:=s0) hk
   rcases c3 k _ e1 with h3|h3
   ·rw[e2] at h3
    injection h3 with h3
    injection h3 with h3
    injection h3 with h4 h3
    injection h3 with h5
    subst h4 h5
    exact⟨g1.alow fun a ha=>g1.lt ha,g2.alow fun a ha=>g2.lt ha⟩
   ·replace h3:(v1'.alow N&&(v2'.alow N&&true))=true:=h3
    simp only[Bool.and_true,Bool.and_eq_true] at h3
    exact h3
  exact⟨v1',v2',A,N,d1',d2',rfl,hk,g1'.mono fun a ha=>⟨(c1 a (g1'.alow' hlow.1 ha)).symm,g1'.alow' hlow.1 ha⟩,g2'.mono fun a ha=>⟨(c1 a (g2'.alow' hlow.2 ha)).symm,g2'.alow' hlow.2 ha⟩,sp',z',n0,fr,m1',m2'⟩
 ·exact h'
abbrev FT (s0:St) (D:Nat→Prop) (k:Nat) (B:List Str) (m:Nat) (x:Option (AV × St)):Prop:=W x fun q=>∃ O',q.1=.tup []∧Fn s0 D k q.2 B O'∧O'.length≤m
theorem use_tot {s0 D k s B O} (t:Str) (h:Fn s0 D k s B O) (hB:B.length≤900000) (hO:O.length+1≤900000):FT s0 D k B (O.length+1) (C F0 X0 119 [.ref k 0,.s t] s):=by
 have hF:=h
 obtain⟨v1,v2,A,N,d1,d2,rfl,hk,g1,g2,sp,z,n0,fr,m1,m2⟩:=h
 have h1:=yb_eq (has_tot t (wa (setOb s0 k (.cells [v1,v2])) A N) (g1.rd (by decide)) (by omega))
 have h2:=yb_eq (has_tot t (wa (setOb s0 k (.cells [v1,v2])) A N) (g2.rd (by decide)) (by omega))
 rw[w_call (f:=119) rfl]
 simp only[go_sem,reduceCtorEq,↓reduceIte,nA,nB,nC,nD,nE,iA,iB,iC,iD,iE,iF,hk,h1]
 refine W.ifc (fun h=>?_) (fun h=>?_)
 ·simp only[go_sem,reduceCtorEq,↓reduceIte,nA,nB,nC,nD,nE,iA,iB,iC,iD,iE,iF,h]
  exact⟨O,hF,by omega⟩
 ·simp only[go_sem,reduceCtorEq,↓reduceIte,nA,nB,nC,nD,nE,iA,iB,iC,iD,iE,iF,h,hk,h2]
  refine W.ifc (fun h=>?_) (fun h=>?_)
  ·simp only[go_sem,reduceCtorEq,↓reduceIte,nA,nB,nC,nD,nE,iA,iB,iC,iD,iE,iF,h]
   exact⟨O,hF,by omega⟩
  ·obtain⟨v2',A',N',d2',k1,k2,k3,k4,k5,k6⟩:=g2.push' (y:=.s t) [.s t] rfl (ele_one rfl) (by rw[strs_len];unfold most;omega)
   simp only[go_sem,reduceCtorEq,↓reduceIte,nA,nB,nC,nD,nE,iA,iB,iC,iD,iE,iF,h,hk,k1,k2.low,k2.one]
   refine⟨O++[t],hF.back ⟨v1,v2',A',N',d1,d2',rfl,hk,g1.mono fun a ha=>⟨k4 a (g1.lt ha) (fun hd=>sp a ha hd),Nat.lt_of_lt_of_le (g1.lt ha) k3⟩,strs_push▸k2,fun a ha hd=>?_,fun hn=>by simp at hn,Nat.le_trans n0 k3,fun a ha hD=>?_,m1,fun a ha=>.inr (Nat.le_trans n0 (k5 a ha))⟩,by simp⟩
   ·have:=k5 a hd;have:=g1.lt ha;omega
   ·rw[k4 a (Nat.lt_of_lt_of_le ha n0) (fun hd=>by rcases m2 a hd with h|h;exact hD h;omega)]
    exact fr a ha hD
theorem within_tot {s0 D k s B O} {vl:AV} {L:List Str} {g:Nat} {caps:List AV} {m:Nat} (h:Fn s0 D k s B O) (hr:Rd s.arr .one vl (strs L)) (hB:B.length+L.length≤900000)
  (hc:∀ s O',Fn s0 D k s (B++L) O'→O'.length≤O.length→FT s0 D k (B++L) m (C F0 X0 g caps s)):FT s0 D k B m (C F0 X0 86 [.ref k 0,vl,.clo g caps] s):=by
 have hF:=h
 obtain⟨v1,v2,A,N,d1,d2,rfl,hk,g1,g2,sp,z,n0,fr,m1,m2⟩:=h
 have hfl:=fun (u:St) (hu:u.arr=A)=>hr.frw u hu
 have hlen:=g1.len
 rw[strs_len] at hlen
 rw[w_call (f:=86) rfl]
 obtain⟨v1',A',N',d1',k1,k2,k3,k4,k5,k6⟩:=g1.app' (ys:=strs L) strs_ele (by rw[strs_len,strs_len];unfold most;omega)
 rw[strs_app] at k2
 have hfl2:=hfl (wa (setOb s0 k (.cells [v1,v2])) A N) rfl
 simp only[go_sem,reduceCtorEq,↓reduceIte,nA,nB,nC,nD,nE,iA,iB,iC,iD,iE,iF,hk,hlen,hfl2,k1,k2.low,k2.one]
 have h1:Fn s0 D k (wa (setOb s0 k (.cells [v1',v2])) A' N') (B++L) O:=by
  refine⟨v1',v2,A',N',d1',d2,rfl,hk,k2,g2.mono fun a ha=>⟨k4 a (g2.lt ha) (fun hd=>sp a hd ha),Nat.lt_of_lt_of_le (g2.lt ha) k3⟩,fun a ha hd=>?_,z,Nat.le_trans n0 k3,fun a ha hD=>?_,fun a ha=>?_,m2⟩
  ·rcases k5 a ha with h|h
   ·exact sp a h hd
   ·have:=g2.lt hd;omega
  ·rw[k4 a (Nat.lt_of_lt_of_le ha n0) (fun hd=>by rcases m1 a hd with h|h;exact hD h;omega)]
   exact fr a ha hD
  ·rcases k5 a ha with h|h
   ·exact m1 a h
   ·exact .inr (Nat.le_trans n0 h)
 refine W.step (hc _ O h1 (Nat.le_refl _)) ?_
 rintro⟨v,s2⟩ ⟨O2,rfl,h2,h3⟩
 have h2':=h2
 obtain⟨w1,w2,A2,N2,e1,e2,rfl,-,j1,j2,sp2,z2,n2,fr2,q1,q2⟩:=h2
 obtain⟨w1',c1,c2⟩:=j1.cut (n:=B.length) (k:=.i64) (by rw[strs_len,List.length_append];omega)
 have e3:(strs (B++L)).take B.length=strs B:=by simp[strs]
 rw[e3] at c2
 simp only[go_sem,reduceCtorEq,↓reduceIte,nA,nB,nC,nD,nE,iA,iB,iC,iD,iE,iF,hk,c1,c2.low,c2.one]
 exact⟨O2,hF.back ⟨w1',w2,A2,N2,e1,e2,rfl,hk,c2,j2,sp2,z2,n2,fr2,q1,q2⟩,h3⟩
theorem Fn.cnt {s0 D k s B O} (h:Fn s0 D k s B O):cnt s=cnt s0:=by
 obtain⟨v1,v2,A,N,d1,d2,rfl,hk,-⟩:=h
 rw[wa_cnt,cnt_set]
theorem Fn.obj {s0 D k s B O r} (h:Fn s0 D k s B O) (hr:r≠k):obj s r=obj s0 r:=by
 obtain⟨v1,v2,A,N,d1,d2,rfl,hk,-⟩:=h
 rw[wa_obj,obj_set' (fun h=>hr h.symm)]
theorem Fn.kl {s0 D k s B O} (h:Fn s0 D k s B O):k<Am.cnt s0:=by
 obtain⟨v1,v2,A,N,d1,d2,rfl,hk,-⟩:=h
 exact hk
theorem Fn.nx {s0 D k s B O} (h:Fn s0 D k s B O):s0.nxt≤s.nxt:=by
 obtain⟨v1,v2,A,N,d1,d2,rfl,hk,-,-,-,-,h,-⟩:=h
 exact h
theorem Fn.fr {s0 D k s B O} (h:Fn s0 D k s B O) {a} (ha:a<s0.nxt) (hD:¬ D a):s.arr a=s0.arr a:=by
 obtain⟨v1,v2,A,N,d1,d2,rfl,hk,-,-,-,-,-,h,-⟩:=h
 exact h a ha hD
theorem Fn.ex {s0 D k s B O} (h:Fn s0 D k s B O) (l:List Ob):Fn (ex s0 l) D k (Am.ex s l) B O:=by
 obtain⟨v1,v2,A,N,d1,d2,rfl,hk,g1,g2,sp,z,n0,fr,m1,m2⟩:=h
 refine⟨v1,v2,A,N,d1,d2,?_,by rw[ex_cnt];omega,g1,g2,sp,z,n0,fr,m1,m2⟩
 rw[ex_wa,ex_sets hk]
theorem Fn.unex {s0 D k s B O} {l:List Ob} (h:Fn (Am.ex s0 l) D k s B O) (hk:k<Am.cnt s0):∃ s',s=Am.ex s' l∧Fn s0 D k s' B O:=by
 obtain⟨v1,v2,A,N,d1,d2,rfl,-,g1,g2,sp,z,n0,fr,m1,m2⟩:=h
 exact⟨wa (setOb s0 k (.cells [v1,v2])) A N,by rw[ex_wa,ex_sets hk],v1,v2,A,N,d1,d2,rfl,hk,g1,g2,sp,z,n0,fr,m1,m2⟩
theorem Fn.base {s0 D k s B O} (h:Fn s0 D k s B O) (cs:List AV):∃ D',Fn (newAr s cs) D' k (newAr s cs) B O∧(∀ s' B' O',Fn (newAr s cs) D' k s' B' O'→Fn s0 D k s' B' O')∧¬ D' s.nxt:=by
 obtain⟨v1,v2,A,N,d1,d2,rfl,hk,g1,g2,sp,z,n0,fr,m1,m2⟩:=h
 refine⟨fun a=>d1=some a∨d2=some a,⟨v1,v2,upd A N (some cs),N+1,d1,d2,?_,?_,g1.mono fun a ha=>⟨upd_other (by have:=g1.lt ha;omega),by have:=g1.lt ha;omega⟩,g2.mono fun a ha=>⟨upd_other (by have:=g2.lt ha;omega),by have:=g2.lt ha;omega⟩,sp,z,Nat.le_refl _,fun _ _ _=>rfl,fun a ha=>.inl (.inl ha),fun a ha=>.inl (.inr ha)⟩,?_,?_⟩
 ·rw[newAr_wa,wa_set,wa_set,set_set];rfl
 ·show k<(s0.objs.set k _).length;rw[List.length_set];exact hk
 ·rintro s' B' O' ⟨w1,w2,A',N',e1,e2,rfl,hk',j1,j2,sp',z',n0',fr',q1,q2⟩
  have hd:∀ a,(d1=some a∨d2=some a)→D a∨s0.nxt≤a:=fun a ha=>ha.elim (m1 a) (m2 a)
  have hn:N+1≤N':=n0'
  refine⟨w1,w2,A',N',e1,e2,?_,hk,j1,j2,sp',z',by omega,fun a ha hD=>?_,fun a ha=>?_,fun a ha=>?_⟩
  ·rw[newAr_wa,wa_set,wa_set,set_set];rfl
  ·have:A' a=upd A N (some cs) a:=fr' a (by show a<N+1;omega) (fun h=>by rcases hd a h with h|h;exact hD h;omega)
   rw[this,upd_other (by omega)]
   exact fr a ha hD
  ·rcases q1 a ha with h|h
   ·exact hd a h
   ·exact .inr (by have:N+1≤a:=h;omega)
  ·rcases q2 a ha with h|h
   ·exact hd a h
   ·exact .inr (by have:N+1≤a:=h;omega)
 ·rintro (h|h)
  ·have:N<N:=g1.lt h;omega
  ·have:N<N:=g2.lt h;omega
abbrev XE (e:Xp):Prop:=∀ s0 D k s B O,Fn s0 D k s B O→B.length+e.sz≤900000→O.length+e.sz≤900000→FT s0 D k B (O.length+e.sz) (C F0 X0 88 [.ref k 0,e.av] s)
theorem args_tot {s0 D k s B O} (e:Xp) (re rf:Nat) (h:Fn s0 D k s B O) (hre:obj s0 re=some (.cells e.av.cells)) (hrf:obj s0 rf=some (.cells [.ref k 0])) (h1:re≠k) (h2:rf≠k)
  (H:∀ x∈e.args,XE x) (hB:B.length+(e.args.map Xp.sz).sum≤900000) (hO:O.length+(e.args.map Xp.sz).sum≤900000):FT s0 D k B (O.length+(e.args.map Xp.sz).sum) (C F0 X0 118 [.ref re 0,.ref rf 0] s):=by
 have hF:=h
 rw[Xp.cells_eq] at hre
 have q1:=(h.obj h1).trans hre
 have q2:=(h.obj h2).trans hrf
 have l1:=obj_lt q1
 have l2:=obj_lt q2
 have hlen:=Xp.szs_len e.args
 rw[w_call (f:=118) rfl]
 simp only[go_sem,reduceCtorEq,↓reduceIte,nA,nB,nC,nD,nE,iA,iB,iC,iD,iE,iF,q1,List.length_map]
 refine W.step (W.range (n:=e.args.length) (Q:=fun q=>∃ E t O',q=(.exit 0,E,t)∧Fn s0 D k t B O'∧O'.length≤O.length+(e.args.map Xp.sz).sum) (L:=l118_0) rfl (fun i E t=>∃ O',E=[(1,.ref rf 0),(5,lst (.st 9) (e.args.map Xp.av)),(6,.i .i64 (e.args.length:Int)),(7,.i .i64 (i:Int))]∧Fn s0 D k t B O'∧O'.length≤O.length+psum Xp.sz e.args i) ?_ ?_ 0 _ _ (Nat.zero_le _) ⟨O,rfl,hF,Nat.le_refl _⟩) ?_
 ·rintro i E t ⟨O',rfl,ht,hO'⟩ hi
  have h0:=List.getElem?_eq_getElem hi
  have hm:=List.getElem_mem hi
  generalize e.args[i]=x at h0 hm
  have g1:∀ k,aiad (.st 9) (lst (.st 9) (e.args.map Xp.av)) (.i k (i:Int))=some (.ep x.av.cells 0):=fun k=>lst_iad rfl (by rw[List.getElem?_map,h0];rfl)
  have h3:decide ((i:Int)<(e.args.length:Int))=true:=by simp;omega
  have h5:=@wrap_one i (by omega)
  have h6:=psum_lt (f:=Xp.sz) h0
  have h7:=psum_succ (f:=Xp.sz) h0
  have q2:=(ht.obj h2).trans hrf
  have l2:=obj_lt q2
  simp only[go_sem,reduceCtorEq,↓reduceIte,nA,nB,nC,nD,nE,iA,iB,iC,iD,iE,iF,g1,h3,h5,q2,l2,Nat.le_refl]
  have hx:=H x hm _ _ _ _ _ _ (ht.ex [.cells x.av.cells]) (by omega) (by omega)
  rw[Xp.cells_eq] at hx
  refine W.step hx ?_
  rintro⟨v,s2⟩ ⟨O2,rfl,k1,k2⟩
  obtain⟨t2,rfl,k3⟩:=k1.unex ht.kl
  have c2:cnt t2=cnt t:=k3.cnt.trans ht.cnt.symm
  simp only[go_sem,reduceCtorEq,↓reduceIte,nA,nB,nC,nD,nE,iA,iB,iC,iD,iE,iF,h5,c2,l2]
  exact⟨O2,k3,by omega⟩
 ·rintro E t ⟨O',rfl,ht,hO'⟩
  have h3:decide ((e.args.length:Int)<(e.args.length:Int))=false:=by simp
  have h6:=@psum_le _ Xp.sz e.args e.args.length
  have q2:=(ht.obj h2).trans hrf
  have l2:=obj_lt q2
  simp only[go_sem,reduceCtorEq,↓reduceIte,nA,nB,nC,nD,nE,iA,iB,iC,iD,iE,iF,h3,l2]
  exact⟨_,_,O',rfl,ht,by omega⟩
 ·rintro q ⟨E,t,O',rfl,ht,hO'⟩
  have c2:cnt t=cnt s:=ht.cnt.trans hF.cnt.symm
  simp only[go_sem,reduceCtorEq,↓reduceIte,nA,nB,nC,nD,nE,iA,iB,iC,iD,iE,iF,c2]
  exact⟨O',hF.back ht,hO'⟩
end Go.Am
namespace Go.Am
open Go
theorem pats1_tot {s0 D k s B O} (l:List Rhs) (rl rf:Nat) (h:Fn s0 D k s B O) (hrl:obj s0 rl=some (.cells [lst (.st 10) (l.map Rhs.av)])) (hrf:obj s0 rf=some (.cells [.ref k 0])) (h1:rl≠k) (h2:rf≠k)
  (H:∀ r∈l,∀ x∈r.parts,XE x) (hB:B.length+(l.map Rhs.sz).sum≤900000) (hO:O.length+(l.map Rhs.sz).sum≤900000):FT s0 D k B (O.length+(l.map Rhs.sz).sum) (C F0 X0 87 [.ref rl 0,.ref rf 0] s):=by
 have hF:=h
 have q1:=(h.obj h1).trans hrl
 have q2:=(h.obj h2).trans hrf
 have l1:=obj_lt q1
 have l2:=obj_lt q2
 have hlen:=Rhs.szs_len l
 rw[w_call (f:=87) rfl]
 simp only[go_sem,reduceCtorEq,↓reduceIte,nA,nB,nC,nD,nE,iA,iB,iC,iD,iE,iF,q1,List.length_map]
 refine W.step (W.range (n:=l.length) (Q:=fun q=>∃ E t O',q=(.exit 0,E,t)∧Fn s0 D k t B O'∧O'.length≤O.length+(l.map Rhs.sz).sum) (L:=l87_1) rfl (fun i E t=>∃ O',E=[(1,.ref rf 0),(6,lst (.st 10) (l.map Rhs.av)),(7,.i .i64 (l.length:Int)),(8,.i .i64 (i:Int))]∧Fn s0 D k t B O'∧O'.length≤O.length+psum Rhs.sz l i) ?_ ?_ 0 _ _ (Nat.zero_le _) ⟨O,rfl,hF,Nat.le_refl _⟩) ?_
 ·rintro i E t ⟨O',rfl,ht,hO'⟩ hi
  have h0:=List.getElem?_eq_getElem hi
  have hm:=List.getElem_mem hi
  generalize l[i]=r at h0 hm
  have g1:∀ k,aiad (.st 10) (lst (.st 10) (l.map Rhs.av)) (.i k (i:Int))=some (.ep r.av.cells 0):=fun k=>lst_iad rfl (by rw[List.getElem?_map,h0];rfl)
  have h3:decide ((i:Int)<(l.length:Int))=true:=by simp;omega
  have h5:=@wrap_one i (by omega)
  have h6:=psum_lt (f:=Rhs.sz) h0
  have h7:=psum_succ (f:=Rhs.sz) h0
  have hsz:=Rhs.sz_eq r
  have hgl:=Xp.szs_len r.guard
  have q2:=(ht.obj h2).trans hrf
  have l2:=obj_lt q2
  simp only[go_sem,reduceCtorEq,↓reduceIte,nA,nB,nC,nD,nE,iA,iB,iC,iD,iE,iF,g1,h3,h5,q2,l2,Nat.le_refl,List.length_map]
  refine W.step (W.range (n:=r.guard.length) (Q:=fun q=>∃ t' O2,q=(.exit 2,[(1,.ref rf 0),(3,.ref (cnt t) 0),(6,lst (.st 10) (l.map Rhs.av)),(7,.i .i64 (l.length:Int)),(8,.i .i64 (i:Int)),(13,lst (.st 9) (r.guard.map Xp.av)),(14,.i .i64 (r.guard.length:Int)),(15,.i .i64 (r.guard.length:Int)),(16,.b false)],ex t' [.cells r.av.cells])∧Fn s0 D k t' B O2∧O2.length≤O'.length+(r.guard.map Xp.sz).sum) (L:=l87_0) rfl (fun j E u=>∃ t' O2,E=[(1,.ref rf 0),(3,.ref (cnt t) 0),(6,lst (.st 10) (l.map Rhs.av)),(7,.i .i64 (l.length:Int)),(8,.i .i64 (i:Int)),(13,lst (.st 9) (r.guard.map Xp.av)),(14,.i .i64 (r.guard.length:Int)),(15,.i .i64 (j:Int))]∧u=ex t' [.cells r.av.cells]∧Fn s0 D k t' B O2∧O2.length≤O'.length+psum Xp.sz r.guard j) ?_ ?_ 0 _ _ (Nat.zero_le _) ⟨t,O',rfl,by rw[Rhs.cells_eq],ht,Nat.le_refl _⟩) ?_
  ·rintro j E u ⟨t',O2,rfl,rfl,ht',hO2⟩ hj
   have h0':=List.getElem?_eq_getElem hj
   have hm':=List.getElem_mem hj
   generalize r.guard[j]=x at h0' hm'
   have g1':∀ k,aiad (.st 9) (lst (.st 9) (r.guard.map Xp.av)) (.i k (j:Int))=some (.ep x.av.cells 0):=fun k=>lst_iad rfl (by rw[List.getElem?_map,h0'];rfl)
   have h3':decide ((j:Int)<(r.guard.length:Int))=true:=by simp;omega
   have h5':=@wrap_one j (by omega)
   have h6':=psum_lt (f:=Xp.sz) h0'
   have h7':=psum_succ (f:=Xp.sz) h0'
   have q2':=(ht'.obj h2).trans hrf
   have l2':=obj_lt q2'
   have c':cnt t'=cnt t:=ht'.cnt.trans ht.cnt.symm
   simp only[go_sem,reduceCtorEq,↓reduceIte,nA,nB,nC,nD,nE,iA,iB,iC,iD,iE,iF,g1',h3',h5',q2',l2',l2,c',Nat.le_refl]
   have hx:=H r hm x (by simp[Rhs.parts,hm']) _ _ _ _ _ _ (ht'.ex [.cells r.av.cells,.cells x.av.cells]) (by omega) (by omega)
   rw[Xp.cells_eq,Rhs.cells_eq] at hx
   refine W.step hx ?_
   rintro⟨v,s2⟩ ⟨O3,rfl,k1,k2⟩
   obtain⟨t2,rfl,k3⟩:=k1.unex ht.kl
   have c2:cnt t2=cnt t:=k3.cnt.trans ht.cnt.symm
   simp only[go_sem,reduceCtorEq,↓reduceIte,nA,nB,nC,nD,nE,iA,iB,iC,iD,iE,iF,h5',c2,l2]
   exact⟨t2,O3,rfl,k3,by omega⟩
  ·rintro E u ⟨t',O2,rfl,rfl,ht',hO2⟩
   have h3':decide ((r.guard.length:Int)<(r.guard.length:Int))=false:=by simp
   have h6':=@psum_le _ Xp.sz r.guard r.guard.length
   have c':cnt t'=cnt t:=ht'.cnt.trans ht.cnt.symm
   simp only[go_sem,reduceCtorEq,↓reduceIte,nA,nB,nC,nD,nE,iA,iB,iC,iD,iE,iF,h3',l2,c']
   exact⟨t',O2,rfl,ht',by omega⟩
  ·rintro q ⟨t',O2,rfl,ht',hO2⟩
   have q2':=(ht'.obj h2).trans hrf
   have l2':=obj_lt q2'
   have c':cnt t'=cnt t:=ht'.cnt.trans ht.cnt.symm
   have e0:obj (ex t' [.cells r.av.cells]) (cnt t)=some (.cells r.av.cells):=by rw[←c',ex_obj0];rfl
   rw[Rhs.cells_eq] at e0
   simp only[go_sem,reduceCtorEq,↓reduceIte,nA,nB,nC,nD,nE,iA,iB,iC,iD,iE,iF,q2',l2',l2,c',e0]
   have hx:=H r hm r.body (by simp[Rhs.parts]) _ _ _ _ _ _ (ht'.ex [.cells r.av.cells]) (by omega) (by omega)
   rw[Rhs.cells_eq] at hx
   refine W.step hx ?_
   rintro⟨v,s2⟩ ⟨O3,rfl,k1,k2⟩
   obtain⟨t2,rfl,k3⟩:=k1.unex ht.kl
   have c2:cnt t2=cnt t:=k3.cnt.trans ht.cnt.symm
   simp only[go_sem,reduceCtorEq,↓reduceIte,nA,nB,nC,nD,nE,iA,iB,iC,iD,iE,iF,h5,c2,l2]
   exact⟨O3,k3,by omega⟩
 ·rintro E t ⟨O',rfl,ht,hO'⟩
  have h3:decide ((l.length:Int)<(l.length:Int))=false:=by simp
  have h6:=@psum_le _ Rhs.sz l l.length
  have q2:=(ht.obj h2).trans hrf
  have l2:=obj_lt q2
  simp only[go_sem,reduceCtorEq,↓reduceIte,nA,nB,nC,nD,nE,iA,iB,iC,iD,iE,iF,h3,l2]
  exact⟨_,_,O',rfl,ht,by omega⟩
 ·rintro q ⟨E,t,O',rfl,ht,hO'⟩
  have c2:cnt t=cnt s:=ht.cnt.trans hF.cnt.symm
  simp only[go_sem,reduceCtorEq,↓reduceIte,nA,nB,nC,nD,nE,iA,iB,iC,iD,iE,iF,c2]
  exact⟨O',hF.back ht,hO'⟩
def RdD (s0:St) (D:Nat→Prop) (el:El) (v:AV) (xs:List AV):Prop:=∀ A,(∀ a,a<s0.nxt→¬ D a→A a=s0.arr a)→Rd A el v xs
theorem RdD.ex {s0 D el v xs} {l:List Ob} (h:RdD s0 D el v xs):RdD (Am.ex s0 l) D el v xs:=h
theorem Fn.wa {s0 D k s B O A N} (h:Fn s0 D k s B O) (ho:Old s.nxt A s.arr) (hn:s.nxt≤N):Fn s0 D k (Am.wa s A N) B O:=by
 obtain⟨v1,v2,A1,N1,d1,d2,rfl,hk,g1,g2,sp,z,n0,fr,m1,m2⟩:=h
 refine⟨v1,v2,A,N,d1,d2,rfl,hk,g1.mono fun a ha=>⟨ho a (g1.lt ha),Nat.lt_of_lt_of_le (g1.lt ha) hn⟩,g2.mono fun a ha=>⟨ho a (g2.lt ha),Nat.lt_of_lt_of_le (g2.lt ha) hn⟩,sp,z,Nat.le_trans n0 hn,fun a ha hD=>?_,m1,m2⟩
 rw[ho a (Nat.lt_of_lt_of_le ha n0)]
 exact fr a ha hD
theorem pats_tot {s0 D k s B O} {v:AV} (ps:List Pat) (l:List Rhs) (h:Fn s0 D k s B O) (hr:RdD s0 D (.st 6) v (ps.map Pat.av))
  (H:∀ r∈l,∀ x∈r.parts,XE x) (hB:B.length+(ps.map Pat.sz).sum+(l.map Rhs.sz).sum≤900000) (hO:O.length+(l.map Rhs.sz).sum≤900000):FT s0 D k B (O.length+(l.map Rhs.sz).sum) (C F0 X0 51 [.ref k 0,v,lst (.st 10) (l.map Rhs.av)] s):=by
 have hF:=h
 have hc:=h.cnt
 have hps:=Pat.szs_len ps
 have hv:=hr s.arr (fun a ha hD=>h.fr ha hD)
 have hvl:=hv.len
 rw[List.length_map] at hvl
 have hvlow:=hv.low
 rw[w_call (f:=51) rfl]
 simp only[go_sem,reduceCtorEq,↓reduceIte,nA,nB,nC,nD,nE,iA,iB,iC,iD,iE,iF,hvl,hv.one]
 refine W.step (W.range (n:=ps.length) (Q:=fun q=>∃ L w A N,q=(.exit 0,[(3,.ref (cnt s) 0),(5,.ref (cnt s+1) 0),(6,w),(9,v),(10,.i .i64 (ps.length:Int)),(11,.i .i64 (ps.length:Int)),(12,.b false)],wa (ex s [.cells [.ref k 0],.cells [lst (.st 10) (l.map Rhs.av)]]) A N)∧Loc s.arr s.nxt A N .one w (strs L)∧L.length≤(ps.map Pat.sz).sum) (L:=l51_0) rfl (fun i E t=>∃ L w A N,E=[(3,.ref (cnt s) 0),(5,.ref (cnt s+1) 0),(6,w),(9,v),(10,.i .i64 (ps.length:Int)),(11,.i .i64 (i:Int))]∧t=wa (ex s [.cells [.ref k 0],.cells [lst (.st 10) (l.map Rhs.av)]]) A N∧Loc s.arr s.nxt A N .one w (strs L)∧L.length≤psum Pat.sz ps i) ?_ ?_ 0 _ _ (Nat.zero_le _) ⟨[],.nsl,s.arr,s.nxt,rfl,rfl,Loc.nil,Nat.le_refl _⟩) ?_
 ·rintro i E t ⟨L,w,A,N,rfl,rfl,hL,hl⟩ hi
  have h0:=List.getElem?_eq_getElem hi
  generalize ps[i]=x at h0
  obtain⟨p,g1,g2,-⟩:=(hr A (fun a ha hD=>(hL.old a (Nat.lt_of_lt_of_le ha h.nx)).trans (h.fr ha hD))).ld i x.av (by rw[List.getElem?_map,h0];rfl)
  have g2':=g2 (wa (ex s [.cells [.ref k 0],.cells [lst (.st 10) (l.map Rhs.av)]]) A N) rfl
  have h3:decide ((i:Int)<(ps.length:Int))=true:=by simp;omega
  have h5:=@wrap_one i (by omega)
  have h6:=psum_lt (f:=Pat.sz) h0
  have h7:=psum_succ (f:=Pat.sz) h0
  obtain⟨zs,hz,hcl⟩:=Vars_all x (by omega) (wa (ex s [.cells [.ref k 0],.cells [lst (.st 10) (l.map Rhs.av)],.cells x.av.cells]) A N)
  rw[Pat.cells_eq] at hcl
  obtain⟨v',A',N',k1,k2⟩:=hL.app (ys:=strs zs) strs_ele (by rw[strs_len,strs_len];unfold most;omega)
  simp only[go_sem,reduceCtorEq,↓reduceIte,nA,nB,nC,nD,nE,iA,iB,iC,iD,iE,iF,g1,g2',h3,h5,hL.low,hcl,k1,k2.low,hvlow,Nat.le_refl]
  exact⟨L++zs,v',A',N',rfl,rfl,strs_app▸k2,by rw[List.length_append];omega⟩
 ·rintro E t ⟨L,w,A,N,rfl,rfl,hL,hl⟩
  have h3:decide ((ps.length:Int)<(ps.length:Int))=false:=by simp
  have h6:=@psum_le _ Pat.sz ps ps.length
  simp only[go_sem,reduceCtorEq,↓reduceIte,nA,nB,nC,nD,nE,iA,iB,iC,iD,iE,iF,h3,hL.low,hvlow]
  exact⟨L,w,A,N,rfl,hL,by omega⟩
 ·rintro q ⟨L,w,A,N,rfl,hL,hl⟩
  simp only[go_sem,reduceCtorEq,↓reduceIte,nA,nB,nC,nD,nE,iA,iB,iC,iD,iE,iF,hL.low]
  have hF2:Fn (ex s0 [.cells [.ref k 0],.cells [lst (.st 10) (l.map Rhs.av)]]) D k (wa (ex s [.cells [.ref k 0],.cells [lst (.st 10) (l.map Rhs.av)]]) A N) B O:=by
   rw[←ex_wa]
   obtain⟨d,hg,hd,ho,hn,-⟩:=hL
   exact (h.wa ho hn).ex _
  refine W.step (within_tot (m:=O.length+(l.map Rhs.sz).sum) hF2 (hL.rd (by decide)) (by omega) (fun s' O' h' hO'=>W.mono (pats1_tot l (cnt s+1) (cnt s) h' (by rw[hc,ex_obj];rfl) (by rw[hc,ex_obj0];rfl) (by have:=h.kl;omega) (by have:=h.kl;omega) H (by rw[List.length_append];omega) (by omega)) ?_)) ?_
  ·rintro q ⟨O2,j1,j2,j3⟩
   exact⟨O2,j1,j2,by omega⟩
  ·rintro⟨u,s2⟩ ⟨O2,rfl,j1,j2⟩
   obtain⟨t2,rfl,j3⟩:=j1.unex h.kl
   have c2:cnt t2=cnt s:=j3.cnt.trans hc.symm
   simp only[go_sem,reduceCtorEq,↓reduceIte,nA,nB,nC,nD,nE,iA,iB,iC,iD,iE,iF,c2]
   exact⟨O2,hF.back j3,j2⟩
end Go.Am
namespace Go.Am
open Go
theorem sum_mem_len {α:Type} {f:α→Nat} (hf:∀ x,1≤f x):∀ {l:List α} {x},x∈l→f x+l.length≤(l.map f).sum+1
 | y::ys,x,h=>by
  simp only[List.map_cons,List.sum_cons,List.length_cons]
  rcases List.mem_cons.1 h with rfl|h
  ·have:=sum_len (f:=f) (l:=ys) (fun z _=>hf z);omega
  ·have:=@sum_mem_len α f hf ys x h;have:=hf y;omega
theorem RdD.lst {s0 D el xs} (h:∀ x∈xs,Ele el x):RdD s0 D el (lst el xs) xs:=fun A _=>Rd.lst h
theorem fbinds_tot {s0 D k s B O} {v:AV} (bs:List Bnd) (h:Fn s0 D k s B O) (hr:RdD s0 D (.st 4) v (bs.map Bnd.av))
  (H:∀ b∈bs,∀ c∈b.cls,∀ r∈c.rhs,∀ x∈r.parts,XE x) (hB:∀ b∈bs,B.length+b.sz≤900000) (hO:O.length+(bs.map Bnd.sz).sum≤900000):FT s0 D k B (O.length+(bs.map Bnd.sz).sum) (C F0 X0 26 [.ref k 0,v] s):=by
 have hF:=h
 have hc:=h.cnt
 have hbl:=Bnd.szs_len bs
 have hv:=hr s.arr (fun a ha hD=>h.fr ha hD)
 have hvl:=hv.len
 rw[List.length_map] at hvl
 have hvlow:=hv.low
 have hkl:k<cnt s:=by have:=h.kl;omega
 rw[w_call (f:=26) rfl]
 simp only[go_sem,reduceCtorEq,↓reduceIte,nA,nB,nC,nD,nE,iA,iB,iC,iD,iE,iF,hvl,hv.one]
 refine W.step (W.range (n:=bs.length) (Q:=fun q=>∃ E t O',q=(.exit 0,E,t)∧Fn s0 D k t B O'∧O'.length≤O.length+(bs.map Bnd.sz).sum) (L:=l26_1) rfl (fun i E t=>∃ O',E=[(0,.ref k 0),(8,v),(9,.i .i64 (bs.length:Int)),(10,.i .i64 (i:Int))]∧Fn s0 D k t B O'∧O'.length≤O.length+psum Bnd.sz bs i) ?_ ?_ 0 _ _ (Nat.zero_le _) ⟨O,rfl,hF,Nat.le_refl _⟩) ?_
 ·rintro i E t ⟨O',rfl,ht,hO'⟩ hi
  have h0:=List.getElem?_eq_getElem hi
  have hm:=List.getElem_mem hi
  generalize bs[i]=b at h0 hm
  have hct:cnt t=cnt s:=ht.cnt.trans hc.symm
  obtain⟨p,g1,g2,-⟩:=(hr t.arr (fun a ha hD=>ht.fr ha hD)).ld i b.av (by rw[List.getElem?_map,h0];rfl)
  have g2':=g2 t rfl
  have h3:decide ((i:Int)<(bs.length:Int))=true:=by simp;omega
  have h5:=@wrap_one i (by omega)
  have h6:=psum_lt (f:=Bnd.sz) h0
  have hBb:=hB b hm
  have h7:=psum_succ (f:=Bnd.sz) h0
  have hsz:=Bnd.sz_eq b
  have hgl:=Clause.szs_len b.cls
  simp only[go_sem,reduceCtorEq,↓reduceIte,nA,nB,nC,nD,nE,iA,iB,iC,iD,iE,iF,g1,g2',h3,h5,hvlow,hkl,hct,Nat.le_refl,List.length_map]
  refine W.step (W.range (n:=b.cls.length) (Q:=fun q=>∃ t' O2,q=(.exit 2,[(0,.ref k 0),(8,v),(9,.i .i64 (bs.length:Int)),(10,.i .i64 (i:Int)),(15,lst (.st 2) (b.cls.map Clause.av)),(16,.i .i64 (b.cls.length:Int)),(17,.i .i64 (b.cls.length:Int)),(18,.b false)],ex t' [.cells b.av.cells])∧Fn s0 D k t' B O2∧O2.length≤O'.length+(b.cls.map Clause.sz).sum) (L:=l26_0) rfl (fun j E u=>∃ t' O2,E=[(0,.ref k 0),(8,v),(9,.i .i64 (bs.length:Int)),(10,.i .i64 (i:Int)),(15,lst (.st 2) (b.cls.map Clause.av)),(16,.i .i64 (b.cls.length:Int)),(17,.i .i64 (j:Int))]∧u=ex t' [.cells b.av.cells]∧Fn s0 D k t' B O2∧O2.length≤O'.length+psum Clause.sz b.cls j) ?_ ?_ 0 _ _ (Nat.zero_le _) ⟨t,O',rfl,by rw[Bnd.cells_eq],ht,Nat.le_refl _⟩) ?_
  ·rintro j E u ⟨t',O2,rfl,rfl,ht',hO2⟩ hj
   have h0':=List.getElem?_eq_getElem hj
   have hm':=List.getElem_mem hj
   generalize b.cls[j]=c at h0' hm'
   have g1':∀ k,aiad (.st 2) (lst (.st 2) (b.cls.map Clause.av)) (.i k (j:Int))=some (.ep c.av.cells 0):=fun k=>lst_iad rfl (by rw[List.getElem?_map,h0'];rfl)
   have h3':decide ((j:Int)<(b.cls.length:Int))=true:=by simp;omega
   have h5':=@wrap_one j (by omega)
   have h6':=psum_lt (f:=Clause.sz) h0'
   have h7':=psum_succ (f:=Clause.sz) h0'
   have hsz':=Clause.sz_eq c
   have c':cnt t'=cnt s:=ht'.cnt.trans hc.symm
   simp only[go_sem,reduceCtorEq,↓reduceIte,nA,nB,nC,nD,nE,iA,iB,iC,iD,iE,iF,g1',h3',h5',hvlow,hkl,c',hct,Nat.le_refl]
   have hx:=pats_tot c.pats c.rhs (ht'.ex [.cells b.av.cells,.cells c.av.cells]) (RdD.lst (mem_map_of fun x _=>x.ele)) (H b hm c hm') (by omega) (by omega)
   rw[Bnd.cells_eq,Clause.cells_eq] at hx
   refine W.step hx ?_
   rintro⟨w,s2⟩ ⟨O3,rfl,k1,k2⟩
   obtain⟨t2,rfl,k3⟩:=k1.unex ht.kl
   have c2:cnt t2=cnt s:=k3.cnt.trans hc.symm
   simp only[go_sem,reduceCtorEq,↓reduceIte,nA,nB,nC,nD,nE,iA,iB,iC,iD,iE,iF,h5',c2,hvlow,hkl]
   exact⟨t2,O3,rfl,k3,by omega⟩
  ·rintro E u ⟨t',O2,rfl,rfl,ht',hO2⟩
   have h3':decide ((b.cls.length:Int)<(b.cls.length:Int))=false:=by simp
   have h6':=@psum_le _ Clause.sz b.cls b.cls.length
   have c':cnt t'=cnt s:=ht'.cnt.trans hc.symm
   simp only[go_sem,reduceCtorEq,↓reduceIte,nA,nB,nC,nD,nE,iA,iB,iC,iD,iE,iF,h3',hvlow,hkl,c',hct]
   exact⟨t',O2,rfl,ht',by omega⟩
  ·rintro q ⟨t',O2,rfl,ht',hO2⟩
   have c':cnt t'=cnt s:=ht'.cnt.trans hc.symm
   simp only[go_sem,reduceCtorEq,↓reduceIte,nA,nB,nC,nD,nE,iA,iB,iC,iD,iE,iF,hvlow,hkl,c',hct,h5]
   exact⟨O2,ht',by omega⟩
 ·rintro E t ⟨O',rfl,ht,hO'⟩
  have h3:decide ((bs.length:Int)<(bs.length:Int))=false:=by simp
  have h6:=@psum_le _ Bnd.sz bs bs.length
  have hct:cnt t=cnt s:=ht.cnt.trans hc.symm
  simp only[go_sem,reduceCtorEq,↓reduceIte,nA,nB,nC,nD,nE,iA,iB,iC,iD,iE,iF,h3,hvlow,hkl,hct]
  exact⟨_,_,O',rfl,ht,by omega⟩
 ·rintro q ⟨E,t,O',rfl,ht,hO'⟩
  have c2:cnt t=cnt s:=ht.cnt.trans hF.cnt.symm
  simp only[go_sem,reduceCtorEq,↓reduceIte,nA,nB,nC,nD,nE,iA,iB,iC,iD,iE,iF,c2]
  exact⟨O',hF.back ht,hO'⟩
theorem expr2_tot {s0 D k s B O} (e:Xp) (hk:e.kind ≠ -1) (re rf ra:Nat) (h:Fn s0 D k s B O) (hre:obj s0 re=some (.cells e.av.cells)) (hrf:obj s0 rf=some (.cells [.ref k 0])) (hra:obj s0 ra=some (.cells [.clo 118 [.ref re 0,.ref rf 0]])) (h1:re≠k) (h2:rf≠k) (h3:ra≠k)
  (HA:∀ x∈e.args,XE x) (HB:∀ b∈e.binds,∀ c∈b.cls,∀ r∈c.rhs,∀ x∈r.parts,XE x) (hB:B.length+(e.args.map Xp.sz).sum≤900000) (hBb:∀ b∈e.binds,B.length+b.sz≤900000) (hO:O.length+e.sz≤900000):FT s0 D k B (O.length+e.sz) (C F0 X0 123 [.ref rf 0,.ref re 0,.ref ra 0] s):=by
 have hF:=h
 have hge:=Xp.sz_ge e
 have hre':=hre
 rw[Xp.cells_eq,Xp.bvs_eq hk] at hre
 have q1:=(h.obj h1).trans hre
 have q2:=(h.obj h2).trans hrf
 have q3:=(h.obj h3).trans hra
 rw[w_call (f:=123) rfl]
 simp only[go_sem,reduceCtorEq,↓reduceIte,nA,nB,nC,nD,nE,iA,iB,iC,iD,iE,iF,q1,q2,q3]
 refine W.step (fbinds_tot e.binds h (RdD.lst (mem_map_of fun x _=>x.ele)) HB hBb (by omega)) ?_
 rintro⟨w,t⟩ ⟨O2,rfl,ht,k2⟩
 have q3:=(ht.obj h3).trans hra
 have ct:cnt t=cnt s:=ht.cnt.trans hF.cnt.symm
 simp only[go_sem,reduceCtorEq,↓reduceIte,nA,nB,nC,nD,nE,iA,iB,iC,iD,iE,iF,q3]
 refine W.step (args_tot e re rf ht hre' hrf h1 h2 HA hB (by omega)) ?_
 rintro⟨w,t3⟩ ⟨O3,rfl,ht3,k3⟩
 have c3:cnt t3=cnt s:=ht3.cnt.trans hF.cnt.symm
 simp only[go_sem,reduceCtorEq,↓reduceIte,nA,nB,nC,nD,nE,iA,iB,iC,iD,iE,iF,c3]
 exact⟨O3,hF.back ht3,by omega⟩
theorem rdd_one {s:St} {D:Nat→Prop} {el:El} {y:AV} {cs:List AV} (hc:y.cells=cs) (hy:Ele el y) (hD:¬ D s.nxt) (hs:0<el.size):RdD (newAr s cs) D el (.os s.nxt el 1) [y]:=by
 intro A hA
 have h1:A s.nxt=some cs:=(hA s.nxt (Nat.lt_succ_self _) hD).trans upd_same
 have hl:cs.length=el.size:=by rw[←hc];exact hy.elem.2.1
 have hg:Gr A (s.nxt+1) el (.os s.nxt el 1) [y] (some s.nxt):=⟨fun x hx=>by rw[List.mem_singleton.1 hx];exact hy,.inr ⟨s.nxt,cs,rfl,h1,by rw[List.take_of_length_le (by simp;omega)];simp[hc],Nat.lt_succ_self _,rfl⟩⟩
 exact hg.rd hs
theorem fexpr_step (n:Nat) (ih:∀ e:Xp,e.sz<n→XE e) (e:Xp) (hn:e.sz<n+1):XE e:=by
 intro s0 D k s B O h hB hO
 have hF:=h
 have hc:=h.cnt
 have hkl:=h.kl
 have hge:=Xp.sz_ge e
 have HA:∀ x∈e.args,XE x:=fun x hx=>ih x (by have:=sum_mem (f:=Xp.sz) hx;omega)
 have HL:∀ a∈e.alts,∀ r∈a.rhs,∀ x∈r.parts,XE x:=fun a ha r hr x hx=>ih x (by
  have h1:=sum_mem (f:=Alt.sz) ha
  have h2:=sum_mem (f:=Rhs.sz) hr
  have h3:=Alt.sz_eq a
  have h4:=Rhs.sz_eq r
  simp only[Rhs.parts,List.mem_append,List.mem_singleton] at hx
  rcases hx with hx|rfl
  ·have:=sum_mem (f:=Xp.sz) hx;omega
  ·omega)
 have HB:∀ b∈e.binds,∀ c∈b.cls,∀ r∈c.rhs,∀ x∈r.parts,XE x:=fun b hb c hc r hr x hx=>ih x (by
  have h1:=sum_mem (f:=Bnd.sz) hb
  have h2:=sum_mem (f:=Clause.sz) hc
  have h3:=sum_mem (f:=Rhs.sz) hr
  have h4:=Bnd.sz_eq b
  have h5:=Clause.sz_eq c
  have h6:=Rhs.sz_eq r
  simp only[Rhs.parts,List.mem_append,List.mem_singleton] at hx
  rcases hx with hx|rfl
  ·have:=sum_mem (f:=Xp.sz) hx;omega
  ·omega)
 have hal:=Alt.szs_len e.alts
 obtain⟨l0,hl0⟩:∃ l0:List Ob,l0=[.cells [.ref k 0],.cells e.av.cells,.cells [.clo 118 [.ref (cnt s+1) 0,.ref (cnt s) 0]]]:=⟨_,rfl⟩
 have hl:Fn (ex s0 l0) D k (ex s l0) B O:=h.ex l0
 have o0:obj (ex s0 l0) (cnt s)=some (.cells [.ref k 0]):=(ex_obj0' (s:=s0) hc.symm).trans (by rw[hl0];rfl)
 have o1:obj (ex s0 l0) (cnt s+1)=some (.cells e.av.cells):=(ex_obj' (s:=s0) hc.symm).trans (by rw[hl0];rfl)
 have o2:obj (ex s0 l0) (cnt s+2)=some (.cells [.clo 118 [.ref (cnt s+1) 0,.ref (cnt s) 0]]):=(ex_obj' (s:=s0) hc.symm).trans (by rw[hl0];rfl)
 have n0:cnt s≠k:=by omega
 have n1:cnt s+1≠k:=by omega
 have n2:cnt s+2≠k:=by omega
 have fin:∀ {t:St} {O':List Str},Fn (ex s0 l0) D k t B O'→∃ t2,t=ex t2 l0∧Fn s0 D k t2 B O'∧cnt t2=cnt s:=fun ht=>by
  obtain⟨t2,rfl,h2⟩:=ht.unex hkl
  exact⟨t2,rfl,h2,h2.cnt.trans hc.symm⟩
 have hargs:∀ {t:St} {O':List Str},Fn (ex s0 l0) D k t B O'→O'.length+(e.args.map Xp.sz).sum≤900000→FT (ex s0 l0) D k B (O'.length+(e.args.map Xp.sz).sum) (C F0 X0 118 [.ref (cnt s+1) 0,.ref (cnt s) 0] t):=fun ht hb=>args_tot e _ _ ht o1 o0 n1 n0 HA (by omega) hb
 rw[w_call (f:=88) rfl]
 have hl0':=hl0
 rw[Xp.cells_eq] at hl0'
 by_cases k1:e.kind=1
 ·have c1:(e.kind==1)=true:=by rw[k1];rfl
  simp only[go_sem,reduceCtorEq,↓reduceIte,nA,nB,nC,nD,nE,iA,iB,iC,iD,iE,iF,c1]
  rw[←hl0']
  refine W.step (use_tot e.name hl (by omega) (by omega)) ?_
  rintro⟨w,t⟩ ⟨O2,rfl,ht,k2⟩
  obtain⟨t2,rfl,ht2,ct2⟩:=fin ht
  simp only[go_sem,reduceCtorEq,↓reduceIte,nA,nB,nC,nD,nE,iA,iB,iC,iD,iE,iF,ct2]
  exact⟨O2,hF.back ht2,by omega⟩
 have c1:(e.kind==1)=false:=by simp[k1]
 by_cases k4:e.kind=4
 ·have c4:(e.kind==4)=true:=by rw[k4];rfl
  have c5:(e.kind==5)=false:=by rw[k4];rfl
  have c6:(e.kind==6)=false:=by rw[k4];rfl
  obtain⟨a,b,hab⟩:=Xp.app_args k4
  have i0:∀ k,aiad (.st 9) (lst (.st 9) (e.args.map Xp.av)) (.i k 0)=some (.ep a.av.cells 0):=fun k=>by rw[hab];exact iad_l0
  have i1:∀ k,aiad (.st 9) (lst (.st 9) (e.args.map Xp.av)) (.i k 1)=some (.ep b.av.cells 0):=fun k=>by rw[hab];exact lst_iad (i:=1) rfl rfl
  simp only[go_sem,reduceCtorEq,↓reduceIte,nA,nB,nC,nD,nE,iA,iB,iC,iD,iE,iF,c1,c4,c5,c6,i0]
  obtain⟨l1,hl1⟩:∃ l1:List Ob,l1=[.cells [.ref k 0],.cells e.av.cells,.cells [.clo 118 [.ref (cnt s+1) 0,.ref (cnt s) 0]],.cells a.av.cells]:=⟨_,rfl⟩
  have hl1':=hl1
  rw[Xp.cells_eq,Xp.cells_eq] at hl1'
  have p0:∀ t B' O',Fn (ex s0 l1) D k t B' O'→obj t (cnt s)=some (.cells [.ref k 0]):=fun t B' O' ht=>(ht.obj n0).trans ((ex_obj0' (s:=s0) hc.symm).trans (by rw[hl1];rfl))
  have p1':obj (ex s0 l1) (cnt s+1)=some (.cells e.av.cells):=(ex_obj' (s:=s0) hc.symm).trans (by rw[hl1];rfl)
  have p2':obj (ex s0 l1) (cnt s+2)=some (.cells [.clo 118 [.ref (cnt s+1) 0,.ref (cnt s) 0]]):=(ex_obj' (s:=s0) hc.symm).trans (by rw[hl1];rfl)
  have p0':obj (ex s0 l1) (cnt s)=some (.cells [.ref k 0]):=(ex_obj0' (s:=s0) hc.symm).trans (by rw[hl1];rfl)
  have p3':obj (ex s0 l1) (cnt s+3)=some (.cells a.av.cells):=(ex_obj' (s:=s0) hc.symm).trans (by rw[hl1];rfl)
  have n3:cnt s+3≠k:=by omega
  have fin1:∀ {t:St} {O':List Str},Fn (ex s0 l1) D k t B O'→∃ t2,t=ex t2 l1∧Fn s0 D k t2 B O'∧cnt t2=cnt s:=fun ht=>by
   obtain⟨t2,rfl,h2⟩:=ht.unex hkl
   exact⟨t2,rfl,h2,h2.cnt.trans hc.symm⟩
  have hsum:(e.args.map Xp.sz).sum=a.sz+b.sz:=by rw[hab];simp
  have hargs1:FT (ex s0 l1) D k B (O.length+(e.args.map Xp.sz).sum) (C F0 X0 118 [.ref (cnt s+1) 0,.ref (cnt s) 0] (ex s l1)):=args_tot e _ _ (h.ex l1) p1' p0' n1 n0 HA (by omega) (by omega)
  refine W.ifc (fun h1=>?_) (fun h1=>?_)
  ·obtain⟨c,d,hcd⟩:=Xp.app_args (e:=a) (by simpa using h1)
   have hga:=Xp.sz_ge a
   have hsum2:(a.args.map Xp.sz).sum=c.sz+d.sz:=by rw[hcd];simp
   have j0:∀ k,aiad (.st 9) (lst (.st 9) (a.args.map Xp.av)) (.i k 0)=some (.ep c.av.cells 0):=fun k=>by rw[hcd];exact iad_l0
   have j1:∀ k,aiad (.st 9) (lst (.st 9) (a.args.map Xp.av)) (.i k 1)=some (.ep d.av.cells 0):=fun k=>by rw[hcd];exact lst_iad (i:=1) rfl rfl
   have hs:=yb_eq (sign_tot c (ex s l1))
   rw[hl1'] at hs
   simp only[go_sem,reduceCtorEq,↓reduceIte,nA,nB,nC,nD,nE,iA,iB,iC,iD,iE,iF,h1,j0,hs]
   refine W.ifc (fun h2=>?_) (fun h2=>?_)
   ·simp only[go_sem,reduceCtorEq,↓reduceIte,nA,nB,nC,nD,nE,iA,iB,iC,iD,iE,iF,h2,j1]
    rw[←hl1']
    refine W.step (ih d (by omega) _ _ _ _ _ _ (h.ex l1) (by omega) (by omega)) ?_
    rintro⟨w,t⟩ ⟨O2,rfl,ht,k2⟩
    have r0:=p0 _ _ _ ht
    have r3:=(ht.obj n3).trans p3'
    rw[Xp.cells_eq] at r3
    simp only[go_sem,reduceCtorEq,↓reduceIte,nA,nB,nC,nD,nE,iA,iB,iC,iD,iE,iF,r0,r3,j0]
    refine W.step (ih c (by omega) _ _ _ _ _ _ ht (by omega) (by omega)) ?_
    rintro⟨w,t⟩ ⟨O3,rfl,ht,k3⟩
    have r0:=p0 _ _ _ ht
    have r1:=(ht.obj n1).trans p1'
    rw[Xp.cells_eq] at r1
    simp only[go_sem,reduceCtorEq,↓reduceIte,nA,nB,nC,nD,nE,iA,iB,iC,iD,iE,iF,r0,r1,i1]
    refine W.step (HA b (by rw[hab];simp) _ _ _ _ _ _ ht (by omega) (by omega)) ?_
    rintro⟨w,t⟩ ⟨O4,rfl,ht,k4⟩
    obtain⟨t2,rfl,ht2,ct2⟩:=fin1 ht
    simp only[go_sem,reduceCtorEq,↓reduceIte,nA,nB,nC,nD,nE,iA,iB,iC,iD,iE,iF,ct2]
    exact⟨O4,hF.back ht2,by omega⟩
   ·simp only[go_sem,reduceCtorEq,↓reduceIte,nA,nB,nC,nD,nE,iA,iB,iC,iD,iE,iF,h2]
    rw[←hl1']
    refine W.step hargs1 ?_
    rintro⟨w,t⟩ ⟨O2,rfl,ht,k2⟩
    obtain⟨t2,rfl,ht2,ct2⟩:=fin1 ht
    simp only[go_sem,reduceCtorEq,↓reduceIte,nA,nB,nC,nD,nE,iA,iB,iC,iD,iE,iF,ct2]
    exact⟨O2,hF.back ht2,by omega⟩
  ·simp only[go_sem,reduceCtorEq,↓reduceIte,nA,nB,nC,nD,nE,iA,iB,iC,iD,iE,iF,h1]
   rw[←hl1']
   refine W.step hargs1 ?_
   rintro⟨w,t⟩ ⟨O2,rfl,ht,k2⟩
   obtain⟨t2,rfl,ht2,ct2⟩:=fin1 ht
   simp only[go_sem,reduceCtorEq,↓reduceIte,nA,nB,nC,nD,nE,iA,iB,iC,iD,iE,iF,ct2]
   exact⟨O2,hF.back ht2,by omega⟩
 have c4:(e.kind==4)=false:=by simp[k4]
 by_cases k5:e.kind=5
 ·have c5:(e.kind==5)=true:=by rw[k5];rfl
  obtain⟨ys,hy,hreal⟩:=real_tot e.params (by omega) (ex s l0)
  rw[hl0'] at hreal
  simp only[go_sem,reduceCtorEq,↓reduceIte,nA,nB,nC,nD,nE,iA,iB,iC,iD,iE,iF,c1,c4,c5,hreal]
  rw[←hl0']
  refine W.step (within_tot (m:=O.length+e.sz) (L:=ys) hl (Rd.lst strs_ele) (by omega) (fun s' O' h' hO'=>W.mono (args_tot e _ _ h' o1 o0 n1 n0 HA (by rw[List.length_append];omega) (by omega)) ?_)) ?_
  ·rintro q ⟨O2,j1,j2,j3⟩
   exact⟨O2,j1,j2,by omega⟩
  ·rintro⟨w,t⟩ ⟨O2,rfl,ht,k2⟩
   obtain⟨t2,rfl,ht2,ct2⟩:=fin ht
   simp only[go_sem,reduceCtorEq,↓reduceIte,nA,nB,nC,nD,nE,iA,iB,iC,iD,iE,iF,ct2]
   exact⟨O2,hF.back ht2,by omega⟩
 have c5:(e.kind==5)=false:=by simp[k5]
 by_cases k6:e.kind=6
 ·have c6:(e.kind==6)=true:=by rw[k6];rfl
  have hbl:=Bnd.szs_len e.binds
  have hbv:=Xp.bvs_eq (e:=e) (by omega)
  obtain⟨ys,hy,hnames⟩:=names_tot e.binds (by omega) (ex s l0)
  rw[←hbv,hl0'] at hnames
  simp only[go_sem,reduceCtorEq,↓reduceIte,nA,nB,nC,nD,nE,iA,iB,iC,iD,iE,iF,c1,c4,c5,c6,hnames]
  rw[←hl0']
  refine W.step (within_tot (m:=O.length+e.sz) (L:=ys) hl (Rd.lst strs_ele) (by omega) (fun s' O' h' hO'=>W.mono (expr2_tot e (by omega) _ _ _ h' o1 o0 o2 n1 n0 n2 HA HB (by rw[List.length_append];omega) (fun b hb=>by rw[List.length_append];have:=sum_mem_len Bnd.sz_pos hb;omega) (by omega)) ?_)) ?_
  ·rintro q ⟨O2,j1,j2,j3⟩
   exact⟨O2,j1,j2,by omega⟩
  ·rintro⟨w,t⟩ ⟨O2,rfl,ht,k2⟩
   obtain⟨t2,rfl,ht2,ct2⟩:=fin ht
   simp only[go_sem,reduceCtorEq,↓reduceIte,nA,nB,nC,nD,nE,iA,iB,iC,iD,iE,iF,ct2]
   exact⟨O2,hF.back ht2,by omega⟩
 have c6:(e.kind==6)=false:=by simp[k6]
 simp only[go_sem,reduceCtorEq,↓reduceIte,nA,nB,nC,nD,nE,iA,iB,iC,iD,iE,iF,c1,c4,c5,c6]
 rw[←hl0']
 refine W.step (hargs hl (by omega)) ?_
 rintro⟨w,t⟩ ⟨O2,rfl,ht,k2⟩
 have r1:=(ht.obj n1).trans o1
 rw[Xp.cells_eq] at r1
 simp only[go_sem,reduceCtorEq,↓reduceIte,nA,nB,nC,nD,nE,iA,iB,iC,iD,iE,iF,r1,List.length_map]
 refine W.step (W.range (n:=e.alts.length) (Q:=fun q=>∃ E t O',q=(.exit 1,E,t)∧Fn (ex s0 l0) D k t B O'∧O'.length≤O2.length+(e.alts.map Alt.sz).sum) (L:=l88_0) rfl (fun i E t=>∃ O',E=[(2,.ref (cnt s) 0),(14,lst (.st 7) (e.alts.map Alt.av)),(15,.i .i64 (e.alts.length:Int)),(16,.i .i64 (i:Int))]∧Fn (ex s0 l0) D k t B O'∧O'.length≤O2.length+psum Alt.sz e.alts i) ?_ ?_ 0 _ _ (Nat.zero_le _) ⟨O2,rfl,ht,Nat.le_refl _⟩) ?_
 ·rintro i E t ⟨O',rfl,ht,hO'⟩ hi
  have h0:=List.getElem?_eq_getElem hi
  have hm:=List.getElem_mem hi
  generalize e.alts[i]=a at h0 hm
  have g1:∀ k,aiad (.st 7) (lst (.st 7) (e.alts.map Alt.av)) (.i k (i:Int))=some (.ep a.av.cells 0):=fun k=>lst_iad rfl (by rw[List.getElem?_map,h0];rfl)
  have h3:decide ((i:Int)<(e.alts.length:Int))=true:=by simp;omega
  have h5:=@wrap_one i (by omega)
  have h6:=psum_lt (f:=Alt.sz) h0
  have h7:=psum_succ (f:=Alt.sz) h0
  have hsz:=Alt.sz_eq a
  have r0:=(ht.obj n0).trans o0
  have l0t:=obj_lt r0
  simp only[go_sem,reduceCtorEq,↓reduceIte,nA,nB,nC,nD,nE,iA,iB,iC,iD,iE,iF,g1,h3,h5,r0,l0t,Nat.le_refl]
  obtain⟨D',b1,b2,b3⟩:=(ht.ex [.cells a.av.cells]).base a.pat.av.cells
  have hx:=pats_tot [a.pat] a.rhs b1 (rdd_one rfl a.pat.ele b3 (by decide)) (HL a hm) (by simp;omega) (by omega)
  rw[Alt.cells_eq,Pat.cells_eq] at hx
  refine W.step hx ?_
  rintro⟨w,s2⟩ ⟨O3,rfl,k1,k2⟩
  rw[←Alt.cells_eq,←Pat.cells_eq] at k1
  obtain⟨t2,rfl,k3⟩:=(b2 _ _ _ k1).unex ht.kl
  have c2:cnt t2=cnt t:=k3.cnt.trans ht.cnt.symm
  simp only[go_sem,reduceCtorEq,↓reduceIte,nA,nB,nC,nD,nE,iA,iB,iC,iD,iE,iF,h5,c2,l0t]
  exact⟨O3,k3,by omega⟩
 ·rintro E t ⟨O',rfl,ht,hO'⟩
  have h3:decide ((e.alts.length:Int)<(e.alts.length:Int))=false:=by simp
  have h6:=@psum_le _ Alt.sz e.alts e.alts.length
  have r0:=(ht.obj n0).trans o0
  have l0t:=obj_lt r0
  simp only[go_sem,reduceCtorEq,↓reduceIte,nA,nB,nC,nD,nE,iA,iB,iC,iD,iE,iF,h3,l0t]
  exact⟨_,_,O',rfl,ht,by omega⟩
 ·rintro q ⟨E,t,O',rfl,ht,hO'⟩
  obtain⟨t2,rfl,ht2,ct2⟩:=fin ht
  simp only[go_sem,reduceCtorEq,↓reduceIte,nA,nB,nC,nD,nE,iA,iB,iC,iD,iE,iF,ct2]
  exact⟨O',hF.back ht2,by omega⟩
theorem fexpr_tot (e:Xp):XE e:=by
 have h:∀ n,∀ e:Xp,e.sz<n→XE e:=by
  intro n
  induction n with
  | zero=>intro e h;omega
  | succ n ih=>exact fun e he=>fexpr_step n ih e he
 exact h _ e (Nat.lt_succ_self _)
end Go.Am
namespace Go.Am
open Go
theorem Uses_tot (b:Bnd) (hb:b.sz≤900000) (s:St):∃ ys:List Str,ys.length≤b.sz∧C F0 X0 9 [b.av] s=some (lst .one (strs ys),s):=by
 suffices h:W (C F0 X0 9 [b.av] s) fun q=>∃ ys:List Str,ys.length≤b.sz∧q=(lst .one (strs ys),s) by
  obtain⟨r,h1,ys,h2,rfl⟩:=h;exact⟨ys,h2,h1⟩
 have ok:=Bnd.ok_sz b hb
 obtain⟨l0,hl0⟩:∃ l0:List Ob,l0=[.cells b.av.cells,.cells [.nsl,.nsl]]:=⟨_,rfl⟩
 have hl0':=hl0
 rw[Bnd.cells_eq] at hl0'
 have hF0:Fn (newAr (ex s l0) b.av.cells) (fun _=>False) (cnt s+1) (newAr (ex s l0) b.av.cells) [] [] :=
  ⟨.nsl,.nsl,_,_,none,none,by rw[newAr_wa,wa_set,ex_set,wa_wa,hl0];rfl,by rw[na_cnt,ex_cnt,hl0];show cnt s+1<cnt s+2;omega,Gr.nil,Gr.nil,(fun a h=>nomatch h),fun _=>rfl,Nat.le_refl _,fun _ _ _=>rfl,(fun a h=>nomatch h),(fun a h=>nomatch h)⟩
 have R0:RdD (newAr (ex s l0) b.av.cells) (fun _=>False) (.st 4) (.os s.nxt (.st 4) 1) [b.av]:=rdd_one (s:=ex s l0) rfl b.ele (fun h=>h) (by decide)
 have hR:=yb_eq (Right_one b ok (newAr (ex s l0) b.av.cells) (R0 _ (fun _ _ _=>rfl)))
 rw[hl0',Bnd.cells_eq] at hR
 rw[w_call (f:=9) rfl]
 simp only[go_sem,reduceCtorEq,↓reduceIte,nA,nB,nC,nD,nE,iA,iB,iC,iD,iE,iF,hR]
 refine W.ifc (fun h=>?_) (fun h=>?_)
 ·simp only[go_sem,reduceCtorEq,↓reduceIte,nA,nB,nC,nD,nE,iA,iB,iC,iD,iE,iF,h]
  have hx:=fbinds_tot [b] hF0 R0 (fun b _ c _ r _ x _=>fexpr_tot x) (by simp;omega) (by simp;omega)
  rw[hl0',Bnd.cells_eq] at hx
  refine W.step hx ?_
  rintro⟨w,s2⟩ ⟨O3,rfl,k1,k2⟩
  obtain⟨v1,v2,A,N,d1,d2,rfl,hk,g1,g2,sp,z,n0,fr,m1,m2⟩:=k1
  obtain⟨A',f1,f2⟩:=g2.fin (fun h=>z (by simpa[strs] using h))
  have hold:Old s.nxt A' s.arr:=fun a ha=>by
   have e1:A' a=A a:=f2 a (fun hd=>by
    rcases m2 a hd with h|h
    ·exact h
    ·have:s.nxt+1≤a:=h;omega)
   have e2:A a=upd s.arr s.nxt (some [AV.s b.name,lst (El.st 2) (List.map Clause.av b.cls),AV.i IntKind.i64 b.l,AV.i IntKind.i64 b.c]) a:=fr a (Nat.lt_succ_of_lt ha) (fun h=>h)
   rw[e1,e2,upd_other (by omega)]
  simp only[go_sem,reduceCtorEq,↓reduceIte,nA,nB,nC,nD,nE,iA,iB,iC,iD,iE,iF,f1 19998]
  exact⟨O3,by simpa using k2,by rw[back_wa hold lst_alow]⟩
 ·simp only[go_sem,reduceCtorEq,↓reduceIte,nA,nB,nC,nD,nE,iA,iB,iC,iD,iE,iF,h]
  exact⟨[],Nat.zero_le _,by rw[newAr_wa,back_wa (fun a ha=>upd_other (by omega)) rfl];rfl⟩
end Go.Am
namespace Go.Am
open Go
theorem place_tot {v:AV} {xs:List Str} (t:Str) (s:St) (hr:Rd s.arr .one v (strs xs)) (hl:xs.length≤1000000):∃ m,C F0 X0 79 [v,.s t] s=some (.i .i64 m,s):=by
 suffices h:W (C F0 X0 79 [v,.s t] s) fun q=>∃ m,q=(.i .i64 m,s) by
  obtain⟨r,h1,m,rfl⟩:=h;exact⟨m,h1⟩
 have hlow:=hr.low
 have hlen:=hr.len
 rw[strs_len] at hlen
 rw[w_call (f:=79) rfl]
 simp only[go_sem,reduceCtorEq,↓reduceIte,nA,nB,nC,nD,nE,iA,iB,iC,iD,iE,iF,hlen]
 refine W.step (W.range (n:=xs.length) (Q:=fun q=>(∃ e,q=(.exit 0,e,s))∨∃ b e,get e 4=some (.i .i64 b)∧q=(.ret,e,s)) (L:=l79_0) rfl (fun i e t'=>e=[(1,.s t),(7,v),(8,.i .i64 (xs.length:Int)),(9,.i .i64 (i:Int))]∧t'=s) ?_ ?_ 0 _ _ (Nat.zero_le _) ⟨rfl,rfl⟩) ?_
 ·rintro i e t' ⟨rfl,rfl⟩ hi
  obtain⟨p,h1,h2,-⟩:=hr.ld i (.s xs[i]) (by simp[strs])
  have h2':=h2 t' rfl
  have h3:decide ((i:Int)<(xs.length:Int))=true:=by simp;omega
  have h5:=@wrap_one i (by omega)
  simp only[go_sem,reduceCtorEq,↓reduceIte,nA,nB,nC,nD,nE,iA,iB,iC,iD,iE,iF,h1,h2',h3,h5,hlow]
  refine W.ifc (fun h=>?_) (fun h=>?_)
  ·simp only[go_sem,reduceCtorEq,↓reduceIte,nA,nB,nC,nD,nE,iA,iB,iC,iD,iE,iF,h,h5]
   exact .inr ⟨_,_,rfl,rfl⟩
  ·simp only[go_sem,reduceCtorEq,↓reduceIte,nA,nB,nC,nD,nE,iA,iB,iC,iD,iE,iF,h,h5]
 ·rintro e t' ⟨rfl,rfl⟩
  have h3:decide ((xs.length:Int)<(xs.length:Int))=false:=by simp
  simp only[go_sem,reduceCtorEq,↓reduceIte,nA,nB,nC,nD,nE,iA,iB,iC,iD,iE,iF,h3]
  exact .inl ⟨_,rfl⟩
 ·rintro q (⟨e,rfl⟩|⟨b,e,h4,rfl⟩)
  ·simp only[go_sem,reduceCtorEq,↓reduceIte,nA,nB,nC,nD,nE,iA,iB,iC,iD,iE,iF]
   exact⟨_,rfl⟩
  ·simp only[go_sem,reduceCtorEq,↓reduceIte,nA,nB,nC,nD,nE,iA,iB,iC,iD,iE,iF,h4]
   exact⟨_,rfl⟩
theorem copied_tot:∀ (n:Nat) (p:Ty),p.sz<n→p.sz≤900000→∀ s,C F0 X0 144 [p.av] s=some (p.av,s):=by
 intro n
 induction n with
 | zero=>intro p h;omega
 | succ n ih =>
  intro p hn hp s
  have hsz:=Ty.sz_eq p
  have hlen:=Ty.szs_len p.args
  refine W.eq ?_
  rw[w_call (f:=144) rfl]
  simp only[go_sem,reduceCtorEq,↓reduceIte,nA,nB,nC,nD,nE,iA,iB,iC,iD,iE,iF,List.length_map]
  obtain⟨l0,hl0⟩:∃ l0:List Ob,l0=[.cells p.av.cells,.cells [.i .i64 0,.i .i64 0,.s [],.nsl]]:=⟨_,rfl⟩
  have hl0':=hl0
  rw[Ty.cells_eq] at hl0'
  refine W.step (W.range (n:=p.args.length) (Q:=fun q=>∃ v A N,q=(.exit 0,[(1,.ref (cnt s) 0),(2,.ref (cnt s+1) 0),(3,v),(7,lst (.st 4) (p.args.map Ty.av)),(8,.i .i64 (p.args.length:Int)),(9,.i .i64 (p.args.length:Int)),(10,.b false)],wa (ex s l0) A N)∧Loc s.arr s.nxt A N (.st 4) v (p.args.map Ty.av)) (L:=l144_0) rfl (fun i e t=>∃ v A N,e=[(1,.ref (cnt s) 0),(2,.ref (cnt s+1) 0),(3,v),(7,lst (.st 4) (p.args.map Ty.av)),(8,.i .i64 (p.args.length:Int)),(9,.i .i64 (i:Int))]∧t=wa (ex s l0) A N∧Loc s.arr s.nxt A N (.st 4) v ((p.args.map Ty.av).take i)) ?_ ?_ 0 _ _ (Nat.zero_le _) ⟨.nsl,s.arr,s.nxt,rfl,by rw[hl0'];rfl,Loc.nil⟩) ?_
  ·rintro i e t ⟨v,A,N,rfl,rfl,hL⟩ hi
   have h0:=List.getElem?_eq_getElem hi
   have hm:=List.getElem_mem hi
   generalize p.args[i]=a at h0 hm
   have h1:∀ k,aiad (.st 4) (lst (.st 4) (p.args.map Ty.av)) (.i k (i:Int))=some (.ep a.av.cells 0):=fun k=>lst_iad rfl (by rw[List.getElem?_map,h0];rfl)
   have h3:decide ((i:Int)<(p.args.length:Int))=true:=by simp;omega
   have h5:=@wrap_one i (by omega)
   have h6:=psum_lt (f:=Ty.sz) h0
   have hc:=ih a (by omega) (by omega)
   obtain⟨v',A',N',k1,k2⟩:=hL.push (y:=a.av) (cy:=a.av.cells) rfl a.ele (by simp;unfold most;omega)
   rw[Ty.cells_eq] at k1
   have e1:(p.args.map Ty.av).take i++[a.av]=(p.args.map Ty.av).take (i+1):=by
    rw[List.take_add_one,List.getElem?_map,h0];rfl
   rw[e1] at k2
   simp only[go_sem,reduceCtorEq,↓reduceIte,nA,nB,nC,nD,nE,iA,iB,iC,iD,iE,iF,h1,h3,h5,hL.low,hc,k1,k2.low,hl0',Nat.le_refl]
   exact⟨v',A',N',rfl,by rw[←hl0'],k2⟩
  ·rintro e t ⟨v,A,N,rfl,rfl,hL⟩
   have h3:decide ((p.args.length:Int)<(p.args.length:Int))=false:=by simp
   rw[List.take_of_length_le (by simp)] at hL
   simp only[go_sem,reduceCtorEq,↓reduceIte,nA,nB,nC,nD,nE,iA,iB,iC,iD,iE,iF,h3,hL.low,hl0']
   exact⟨v,A,N,rfl,hL⟩
  ·rintro q ⟨v,A,N,rfl,hL⟩
   obtain⟨A',k1,k2⟩:=hL.fin
   have hone:v.cells=[v]:=by obtain⟨d,h,-⟩:=hL;exact h.one
   simp only[go_sem,reduceCtorEq,↓reduceIte,nA,nB,nC,nD,nE,iA,iB,iC,iD,iE,iF,hl0',hL.low,hone]
   simp only[go_sem,reduceCtorEq,↓reduceIte,nA,nB,nC,nD,nE,iA,iB,iC,iD,iE,iF,k1 19997]
   rw[back_wa k2 p.alow]
theorem copied_eq (p:Ty) (hp:p.sz≤900000) (s:St):C F0 X0 144 [p.av] s=some (p.av,s):=copied_tot _ p (Nat.lt_succ_self _) hp s
end Go.Am
namespace Go.Am
open Go
abbrev isInt (v:AV):Prop:=∃ n,v=.i .i64 n
abbrev isCon (v:AV):Prop:=∃ c:Con,v=c.av∧(c.fields.map Ty.sz).sum≤900000
def TbAt (s:St) (k b:Nat):Prop:=∃ m1 m2 v es1 es2,k<b∧m1<b∧m2<b∧obj s k=some (.cells [.mp m1,.mp m2,v])∧obj s m1=some (.map es1)∧obj s m2=some (.map es2)∧(∀ e∈es1,isInt e.2)∧(∀ e∈es2,isCon e.2)
theorem TbAt.mono {s s' k b} (h:TbAt s k b) (hs:∀ r,r<b→obj s' r=obj s r):TbAt s' k b:=by
 obtain⟨m1,m2,v,es1,es2,h1,h2,h3,h4,h5,h6,h7,h8⟩:=h
 exact⟨m1,m2,v,es1,es2,h1,h2,h3,(hs _ h1).trans h4,(hs _ h2).trans h5,(hs _ h3).trans h6,h7,h8⟩
theorem TbAt.ex {s k b} {l:List Ob} (h:TbAt s k b) (hb:b≤cnt s):TbAt (Am.ex s l) k b:=h.mono fun r hr=>ex_old (by omega)
theorem con_zero:AV.agg [.s [],.s [],.i .i64 0,.i .i64 0,.nsl]=(⟨[],[],0,0,[]⟩:Con).av:=(rfl)
theorem Con_tot {k b:Nat} (nm:Str) (s:St) (h:TbAt s k b) (hb:b≤cnt s):∃ (c:Con) (t:Bool),C F0 X0 134 [.ref k 0,.s nm] s=some (.tup [c.av,.b t],s):=by
 suffices h:W (C F0 X0 134 [.ref k 0,.s nm] s) fun q=>∃ (c:Con) (t:Bool),q=(.tup [c.av,.b t],s) by
  obtain⟨r,h1,c,t,rfl⟩:=h;exact⟨c,t,h1⟩
 obtain⟨m1,m2,v,es1,es2,h1,h2,h3,h4,h5,h6,h7,h8⟩:=h
 have hk:k<cnt s:=by omega
 have hm:m2<cnt s:=by omega
 rw[w_call (f:=134) rfl]
 cases hf:findE nm es2 with
 | none =>
  simp only[go_sem,reduceCtorEq,↓reduceIte,nA,nB,nC,nD,nE,iA,iB,iC,iD,iE,iF,hk,hm,h4,h6,hf]
  exact⟨⟨[],[],0,0,[]⟩,false,rfl⟩
 | some q =>
  obtain⟨c,rfl,hc⟩:=findE_all h8 hf
  have hlen:=Ty.szs_len c.fields
  simp only[go_sem,reduceCtorEq,↓reduceIte,nA,nB,nC,nD,nE,iA,iB,iC,iD,iE,iF,hk,hm,h4,h6,hf,List.length_map]
  obtain⟨l0,hl0⟩:∃ l0:List Ob,l0=[.cells [.s [],.s [],.i .i64 0,.i .i64 0,.nsl],.cells [.s c.name,.s c.data,.i .i64 c.tag,.i .i64 c.params,lst (.st 4) (c.fields.map Ty.av)]]:=⟨_,rfl⟩
  refine W.step (W.range (n:=c.fields.length) (Q:=fun q=>∃ v A N,q=(.exit 0,[(4,.ref (cnt s) 0),(6,.ref (cnt s+1) 0),(8,v),(27,lst (.st 4) (c.fields.map Ty.av)),(28,.i .i64 (c.fields.length:Int)),(29,.i .i64 (c.fields.length:Int)),(30,.b false)],wa (ex s l0) A N)∧Loc s.arr s.nxt A N (.st 4) v (c.fields.map Ty.av)) (L:=l134_0) rfl (fun i e t=>∃ v A N,e=[(4,.ref (cnt s) 0),(6,.ref (cnt s+1) 0),(8,v),(27,lst (.st 4) (c.fields.map Ty.av)),(28,.i .i64 (c.fields.length:Int)),(29,.i .i64 (i:Int))]∧t=wa (ex s l0) A N∧Loc s.arr s.nxt A N (.st 4) v ((c.fields.map Ty.av).take i)) ?_ ?_ 0 _ _ (Nat.zero_le _) ⟨.nsl,s.arr,s.nxt,rfl,by rw[hl0];rfl,Loc.nil⟩) ?_
  ·rintro i e t ⟨v,A,N,rfl,rfl,hL⟩ hi
   have h0:=List.getElem?_eq_getElem hi
   generalize c.fields[i]=a at h0
   have h1:∀ k,aiad (.st 4) (lst (.st 4) (c.fields.map Ty.av)) (.i k (i:Int))=some (.ep a.av.cells 0):=fun k=>lst_iad rfl (by rw[List.getElem?_map,h0];rfl)
   have h3:decide ((i:Int)<(c.fields.length:Int))=true:=by simp;omega
   have h5:=@wrap_one i (by omega)
   have h6:=psum_lt (f:=Ty.sz) h0
   have hc:=copied_eq a (by omega)
   obtain⟨v',A',N',k1,k2⟩:=hL.push (y:=a.av) (cy:=a.av.cells) rfl a.ele (by simp;unfold most;omega)
   rw[Ty.cells_eq] at k1
   have e1:(c.fields.map Ty.av).take i++[a.av]=(c.fields.map Ty.av).take (i+1):=by
    rw[List.take_add_one,List.getElem?_map,h0];rfl
   rw[e1] at k2
   simp only[go_sem,reduceCtorEq,↓reduceIte,nA,nB,nC,nD,nE,iA,iB,iC,iD,iE,iF,h1,h3,h5,hL.low,hc,k1,k2.low,hl0,Nat.le_refl]
   exact⟨v',A',N',rfl,rfl,k2⟩
  ·rintro e t ⟨v,A,N,rfl,rfl,hL⟩
   have h3:decide ((c.fields.length:Int)<(c.fields.length:Int))=false:=by simp
   rw[List.take_of_length_le (by simp)] at hL
   simp only[go_sem,reduceCtorEq,↓reduceIte,nA,nB,nC,nD,nE,iA,iB,iC,iD,iE,iF,h3,hL.low,hl0]
   exact⟨v,A,N,rfl,hL⟩
  ·rintro q ⟨v,A,N,rfl,hL⟩
   obtain⟨A',k1,k2⟩:=hL.fin
   have hone:v.cells=[v]:=by obtain⟨d,h,-⟩:=hL;exact h.one
   simp only[go_sem,reduceCtorEq,↓reduceIte,nA,nB,nC,nD,nE,iA,iB,iC,iD,iE,iF,hl0,hL.low,hone]
   simp only[go_sem,reduceCtorEq,↓reduceIte,nA,nB,nC,nD,nE,iA,iB,iC,iD,iE,iF,k1 19996]
   exact⟨c,true,by rw[back_wa k2 (by simp[alow_tup,alowL_cons,alowL_nil,c.alow,alow_b])]⟩
theorem field_tot:∀ (n:Nat) (x:Ty),x.sz<n→x.sz≤900000→∀ (ps:List Str) (k b:Nat) (s:St),ps.length≤900000→TbAt s k b→b≤cnt s→∃ (y:Ty) (e:Int),y.sz≤x.sz∧C F0 X0 80 [.ref k 0,lst .one (strs ps),x.av] s=some (.tup [y.av,.i .i64 e],s):=by
 intro n
 induction n with
 | zero=>intro p h;omega
 | succ n ih =>
  intro x hn hx ps k b s hps htb hb
  suffices h:W (C F0 X0 80 [.ref k 0,lst .one (strs ps),x.av] s) fun q=>∃ (y:Ty) (e:Int),y.sz≤x.sz∧q=(.tup [y.av,.i .i64 e],s) by
   obtain⟨r,h1,y,e,h2,rfl⟩:=h;exact⟨y,e,h2,h1⟩
  have htb0:=htb
  obtain⟨m1,m2,v,es1,es2,h1,h2,h3,h4,h5,h6,h7,h8⟩:=htb
  have hk:k<cnt s:=by omega
  have hm:m1<cnt s:=by omega
  have hsz:=Ty.sz_eq x
  have hlen:=Ty.szs_len x.args
  obtain⟨m,hpl⟩:∃ m:St→Int,∀ s,C F0 X0 79 [lst .one (strs ps),.s x.name] s=some (.i .i64 (m s),s):=by
   have:∀ s,∃ m,C F0 X0 79 [lst .one (strs ps),.s x.name] s=some (.i .i64 m,s):=fun s=>place_tot x.name s (Rd.lst strs_ele) (by omega)
   exact⟨fun s=>Classical.choose (this s),fun s=>Classical.choose_spec (this s)⟩
  obtain⟨l1,hl1⟩:∃ l1:List Ob,l1=[.cells x.av.cells,.cells [.i .i64 0,.i .i64 0,.s [],.nsl]]:=⟨_,rfl⟩
  have main:∀ (nm:Str) bs,W (E F0 X0 bs l80_0 [(0,.ref k 0),(1,lst .one (strs ps)),(5,.ref (cnt s) 0),(6,.ref (cnt s+1) 0),(11,.ref (cnt s+2) 0),(68,lst (.st 4) (x.args.map Ty.av)),(69,.i .i64 (x.args.length:Int)),(70,.i .i64 0)] (ex s [.cells x.av.cells,.cells [.i .i64 0,.i .i64 0,.s [],.nsl],.cells [.i .i64 x.kind,.i .i64 0,.s nm,.nsl]])) fun q =>
    (∃ (v:AV) (ys:List Ty) (A:Nat→Option (List AV)) (N:Nat),q=(.exit 1,[(0,.ref k 0),(1,lst .one (strs ps)),(5,.ref (cnt s) 0),(6,.ref (cnt s+1) 0),(11,.ref (cnt s+2) 0),(68,lst (.st 4) (x.args.map Ty.av)),(69,.i .i64 (x.args.length:Int)),(70,.i .i64 (x.args.length:Int)),(71,.b false)],wa (ex s [.cells x.av.cells,.cells [.i .i64 0,.i .i64 0,.s [],.nsl],.cells [.i .i64 x.kind,.i .i64 0,.s nm,v]]) A N)∧Loc s.arr s.nxt A N (.st 4) v (ys.map Ty.av)∧(ys.map Ty.sz).sum≤(x.args.map Ty.sz).sum) ∨
    ∃ v A N e,q=(.ret,[(6,.ref (cnt s+1) 0),(7,.i .i64 e)],wa (ex s [.cells x.av.cells,.cells x.av.cells,.cells [.i .i64 x.kind,.i .i64 0,.s nm,v]]) A N)∧Old s.nxt A s.arr:=by
   intro nm bs
   refine W.range (n:=x.args.length) (L:=l80_0) rfl (fun i e t=>∃ (v:AV) (ys:List Ty) (A:Nat→Option (List AV)) (N:Nat),e=[(0,.ref k 0),(1,lst .one (strs ps)),(5,.ref (cnt s) 0),(6,.ref (cnt s+1) 0),(11,.ref (cnt s+2) 0),(68,lst (.st 4) (x.args.map Ty.av)),(69,.i .i64 (x.args.length:Int)),(70,.i .i64 (i:Int))]∧t=wa (ex s [.cells x.av.cells,.cells [.i .i64 0,.i .i64 0,.s [],.nsl],.cells [.i .i64 x.kind,.i .i64 0,.s nm,v]]) A N∧Loc s.arr s.nxt A N (.st 4) v (ys.map Ty.av)∧(ys.map Ty.sz).sum≤psum Ty.sz x.args i) ?_ ?_ 0 _ _ (Nat.zero_le _) ⟨.nsl,[],s.arr,s.nxt,rfl,rfl,Loc.nil,Nat.le_refl _⟩
   ·rintro i e t ⟨v,ys,A,N,rfl,rfl,hL,hy⟩ hi
    have h0:=List.getElem?_eq_getElem hi
    generalize x.args[i]=a at h0
    have g1:∀ k,aiad (.st 4) (lst (.st 4) (x.args.map Ty.av)) (.i k (i:Int))=some (.ep a.av.cells 0):=fun k=>lst_iad rfl (by rw[List.getElem?_map,h0];rfl)
    have g3:decide ((i:Int)<(x.args.length:Int))=true:=by simp;omega
    have g5:=@wrap_one i (by omega)
    have g6:=psum_lt (f:=Ty.sz) h0
    have g7:=psum_succ (f:=Ty.sz) h0
    have g8:=Ty.szs_len ys
    obtain⟨y,e,hys,hc⟩:=ih a (by omega) (by omega) ps k b (wa (ex s [.cells x.av.cells,.cells [.i .i64 0,.i .i64 0,.s [],.nsl],.cells [.i .i64 x.kind,.i .i64 0,.s nm,v],.cells a.av.cells]) A N) hps (htb0.ex hb) (by rw[wa_cnt,ex_cnt];omega)
    rw[Ty.cells_eq,Ty.cells_eq] at hc
    obtain⟨v',A',N',k1,k2⟩:=hL.push (y:=y.av) (cy:=y.av.cells) rfl y.ele (by simp;unfold most;omega)
    rw[Ty.cells_eq] at k1
    have e1:ys.map Ty.av++[y.av]=(ys++[y]).map Ty.av:=by simp
    rw[e1] at k2
    have hone:v'.cells=[v']:=by obtain⟨d,h,-⟩:=k2;exact h.one
    simp only[go_sem,reduceCtorEq,↓reduceIte,nA,nB,nC,nD,nE,iA,iB,iC,iD,iE,iF,g1,g3,hk,Nat.le_refl,hc]
    refine W.ifc (fun h=>?_) (fun h=>?_)
    ·simp only[go_sem,reduceCtorEq,↓reduceIte,nA,nB,nC,nD,nE,iA,iB,iC,iD,iE,iF,h,hk,g5,hL.low,Nat.le_refl]
     exact .inr ⟨v,A,N,e,rfl,hL.old⟩
    ·simp only[go_sem,reduceCtorEq,↓reduceIte,nA,nB,nC,nD,nE,iA,iB,iC,iD,iE,iF,h,hk,g5,k1,k2.low,hone,hL.low,Nat.le_refl]
     exact⟨v',ys++[y],A',N',rfl,k2,by simp;omega⟩
   ·rintro e t ⟨v,ys,A,N,rfl,rfl,hL,hy⟩
    have g3:decide ((x.args.length:Int)<(x.args.length:Int))=false:=by simp
    have g6:=@psum_le _ Ty.sz x.args x.args.length
    simp only[go_sem,reduceCtorEq,↓reduceIte,nA,nB,nC,nD,nE,iA,iB,iC,iD,iE,iF,g3,hk]
    exact .inl ⟨v,ys,A,N,rfl,hL,by omega⟩
  rw[Ty.cells_eq] at main
  rw[w_call (f:=80) rfl]
  simp only[go_sem,reduceCtorEq,↓reduceIte,nA,nB,nC,nD,nE,iA,iB,iC,iD,iE,iF]
  refine W.ifc (fun c1=>?_) (fun c1=>?_)
  ·simp only[go_sem,reduceCtorEq,↓reduceIte,nA,nB,nC,nD,nE,iA,iB,iC,iD,iE,iF,c1,hpl]
   refine W.ifc (fun c=>?_) (fun c=>?_)
   ·simp only[go_sem,reduceCtorEq,↓reduceIte,nA,nB,nC,nD,nE,iA,iB,iC,iD,iE,iF,c]
    exact⟨x,81,Nat.le_refl _,rfl⟩
   ·simp only[go_sem,reduceCtorEq,↓reduceIte,nA,nB,nC,nD,nE,iA,iB,iC,iD,iE,iF,c]
    exact⟨Ty.mk 1 (m _) [] [],0,by rw[Ty.sz_eq];show 1+0≤x.sz;omega,rfl⟩
  ·simp only[go_sem,reduceCtorEq,↓reduceIte,nA,nB,nC,nD,nE,iA,iB,iC,iD,iE,iF,c1]
   refine W.ifc (fun c2=>?_) (fun c2=>?_)
   ·cases hf:findE x.name es1 with
    | none =>
     simp only[go_sem,reduceCtorEq,↓reduceIte,nA,nB,nC,nD,nE,iA,iB,iC,iD,iE,iF,c2,hk,hm,h4,h5,hf]
     exact⟨x,81,Nat.le_refl _,rfl⟩
    | some q =>
     obtain⟨c,rfl⟩:=findE_all h7 hf
     simp only[go_sem,reduceCtorEq,↓reduceIte,nA,nB,nC,nD,nE,iA,iB,iC,iD,iE,iF,c2,hk,hm,h4,h5,hf,List.length_map]
     refine W.ifc (fun c3=>?_) (fun c3=>?_)
     ·simp only[go_sem,reduceCtorEq,↓reduceIte,nA,nB,nC,nD,nE,iA,iB,iC,iD,iE,iF,c2,c3,hk]
      exact⟨x,82,Nat.le_refl _,rfl⟩
     ·simp only[go_sem,reduceCtorEq,↓reduceIte,nA,nB,nC,nD,nE,iA,iB,iC,iD,iE,iF,c2,c3,hk]
      refine W.step (main x.name _) ?_
      rintro q (⟨v,ys,A,N,rfl,hL,hy⟩|⟨v,A,N,e,rfl,ho⟩)
      ·obtain⟨A',f1,f2⟩:=hL.fin
       simp only[go_sem,reduceCtorEq,↓reduceIte,nA,nB,nC,nD,nE,iA,iB,iC,iD,iE,iF]
       simp only[go_sem,reduceCtorEq,↓reduceIte,nA,nB,nC,nD,nE,iA,iB,iC,iD,iE,iF,f1 19996]
       exact⟨Ty.mk x.kind 0 x.name ys,0,by rw[Ty.sz_eq];show 1+(ys.map Ty.sz).sum≤x.sz;omega,by rw[back_wa f2 (by simp[alow_tup,alow_agg,alowL_cons,alowL_nil,lst_alow,alow_i,alow_s])];rw[Ty.av_eq];rfl⟩
      ·simp only[go_sem,reduceCtorEq,↓reduceIte,nA,nB,nC,nD,nE,iA,iB,iC,iD,iE,iF]
       exact⟨x,e,Nat.le_refl _,by rw[back_wa ho (by simp[alow_tup,alowL_cons,alowL_nil,x.alow,alow_i])]⟩
   ·simp only[go_sem,reduceCtorEq,↓reduceIte,nA,nB,nC,nD,nE,iA,iB,iC,iD,iE,iF,c2]
    refine W.ifc (fun c3=>?_) (fun c3=>?_)
    ·simp only[go_sem,reduceCtorEq,↓reduceIte,nA,nB,nC,nD,nE,iA,iB,iC,iD,iE,iF,c2,c3,hk,List.length_map]
     refine W.ifc (fun c4=>?_) (fun c4=>?_)
     ·simp only[go_sem,reduceCtorEq,↓reduceIte,nA,nB,nC,nD,nE,iA,iB,iC,iD,iE,iF,c2,c4,hk]
      exact⟨x,82,Nat.le_refl _,rfl⟩
     ·simp only[go_sem,reduceCtorEq,↓reduceIte,nA,nB,nC,nD,nE,iA,iB,iC,iD,iE,iF,c2,c4,hk]
      refine W.step (main [] _) ?_
      rintro q (⟨v,ys,A,N,rfl,hL,hy⟩|⟨v,A,N,e,rfl,ho⟩)
      ·obtain⟨A',f1,f2⟩:=hL.fin
       simp only[go_sem,reduceCtorEq,↓reduceIte,nA,nB,nC,nD,nE,iA,iB,iC,iD,iE,iF]
       simp only[go_sem,reduceCtorEq,↓reduceIte,nA,nB,nC,nD,nE,iA,iB,iC,iD,iE,iF,f1 19996]
       exact⟨Ty.mk x.kind 0 [] ys,0,by rw[Ty.sz_eq];show 1+(ys.map Ty.sz).sum≤x.sz;omega,by rw[back_wa f2 (by simp[alow_tup,alow_agg,alowL_cons,alowL_nil,lst_alow,alow_i,alow_s])];rw[Ty.av_eq];rfl⟩
      ·simp only[go_sem,reduceCtorEq,↓reduceIte,nA,nB,nC,nD,nE,iA,iB,iC,iD,iE,iF]
       exact⟨x,e,Nat.le_refl _,by rw[back_wa ho (by simp[alow_tup,alowL_cons,alowL_nil,x.alow,alow_i])]⟩
    ·simp only[go_sem,reduceCtorEq,↓reduceIte,nA,nB,nC,nD,nE,iA,iB,iC,iD,iE,iF,c2,c3,hk]
     exact⟨x,82,Nat.le_refl _,rfl⟩
end Go.Am
namespace Go.Am
open Go
structure Tn (s0:St) (k m1 m2:Nat) (s:St) (n:Nat):Prop where
 cnt:cnt s=cnt s0
 oth:∀ r,r≠k→r≠m1→r≠m2→obj s r=obj s0 r
 hk:k<Am.cnt s0
 h1:m1<Am.cnt s0
 h2:m2<Am.cnt s0
 n1:k≠m1
 n2:k≠m2
 n3:m1≠m2
 old:Old s0.nxt s.arr s0.arr
 nx:s0.nxt≤s.nxt
 tab:∃ v es1 es2 L d,obj s k=some (.cells [.mp m1,.mp m2,v])∧obj s m1=some (.map es1)∧obj s m2=some (.map es2)∧(∀ e∈es1,isInt e.2)∧(∀ e∈es2,isCon e.2)∧Gr s.arr s.nxt .one v (strs L) d∧L.length≤n∧(∀ a,d=some a→s0.nxt≤a)
theorem Tn.back {s0 k m1 m2 s n s' n' v} (h:Tn s0 k m1 m2 s n) (h':Tn s0 k m1 m2 s' n'):Tn s0 k m1 m2 (back s v s') n':=by
 unfold Am.back
 split
 ·rename_i hc
  obtain⟨c1,c2,c3⟩:=hc
  obtain⟨w,es1,es2,L,d,t1,t2,t3,t4,t5,t6,t7,t8⟩:=h'.tab
  obtain⟨w0,fs1,fs2,L0,d0,u1,u2,u3,u4,u5,u6,u7,u8⟩:=h.tab
  have hlow:w.alow s.nxt=true:=by
   rcases c3 k _ t1 with h3|h3
   ·rw[show s.objs[k]?=_ from u1] at h3
    injection h3 with h3
    injection h3 with h3
    injection h3 with h4 h3
    injection h3 with h5 h3
    injection h3 with h6 h3
    rw[←h6]
    exact u6.alow fun a ha=>u6.lt ha
   ·replace h3:(true&&(true&&(w.alow s.nxt&&true)))=true:=h3
    simpa using h3
  exact⟨h'.cnt,h'.oth,h'.hk,h'.h1,h'.h2,h'.n1,h'.n2,h'.n3,h.old,h.nx,w,es1,es2,L,d,t1,t2,t3,t4,t5,t6.mono fun a ha=>⟨(c1 a (t6.alow' hlow ha)).symm,t6.alow' hlow ha⟩,t7,t8⟩
 ·exact h'
theorem Tn.ex {s0 k m1 m2 s n} (h:Tn s0 k m1 m2 s n) (l:List Ob):Tn (ex s0 l) k m1 m2 (Am.ex s l) n:=by
 have hc:=h.cnt
 obtain⟨w,es1,es2,L,d,t1,t2,t3,t4,t5,t6,t7,t8⟩:=h.tab
 refine⟨by rw[ex_cnt,ex_cnt,hc],fun r a b c=>?_,by rw[ex_cnt];have:=h.hk;omega,by rw[ex_cnt];have:=h.h1;omega,by rw[ex_cnt];have:=h.h2;omega,h.n1,h.n2,h.n3,h.old,h.nx,w,es1,es2,L,d,?_,?_,?_,t4,t5,t6,t7,t8⟩
 ·rcases Nat.lt_or_ge r (Am.cnt s) with hr|hr
  ·rw[ex_old hr,ex_old (by omega)];exact h.oth r a b c
  ·obtain⟨i,rfl⟩:=Nat.exists_eq_add_of_le hr
   rw[ex_obj,hc,ex_obj]
 ·rw[ex_old (obj_lt t1)];exact t1
 ·rw[ex_old (obj_lt t2)];exact t2
 ·rw[ex_old (obj_lt t3)];exact t3
theorem Tn.unex {s0 k m1 m2 s n} {l:List Ob} (h:Tn (Am.ex s0 l) k m1 m2 s n) (hk:k<Am.cnt s0) (h1:m1<Am.cnt s0) (h2:m2<Am.cnt s0):∃ s',s=Am.ex s' l∧Tn s0 k m1 m2 s' n:=by
 have hc:=h.cnt
 rw[ex_cnt] at hc
 obtain⟨w,es1,es2,L,d,t1,t2,t3,t4,t5,t6,t7,t8⟩:=h.tab
 have hl:s.objs.length=Am.cnt s0+l.length:=hc
 have hd:s.objs.drop (Am.cnt s0)=l:=by
  apply List.ext_getElem?
  intro i
  rw[List.getElem?_drop]
  have:=h.oth (Am.cnt s0+i) (by omega) (by omega) (by omega)
  rw[ex_obj] at this
  exact this
 have hcut:∀ r,r<Am.cnt s0→(s.objs.take (Am.cnt s0))[r]?=s.objs[r]?:=fun r hr=>by rw[List.getElem?_take,if_pos hr]
 have hcn:(s.objs.take (Am.cnt s0)).length=Am.cnt s0:=by rw[List.length_take];omega
 refine⟨⟨s.objs.take (Am.cnt s0),s.arr,s.nxt⟩,?_,hcn,fun r a b c=>?_,hk,h1,h2,h.n1,h.n2,h.n3,h.old,h.nx,w,es1,es2,L,d,(hcut _ hk).trans t1,(hcut _ h1).trans t2,(hcut _ h2).trans t3,t4,t5,t6,t7,t8⟩
 ·show s=St.mk (s.objs.take (Am.cnt s0)++l) s.arr s.nxt
  rw[←hd,List.take_append_drop]
 ·rcases Nat.lt_or_ge r (Am.cnt s0) with hr|hr
  ·have:=h.oth r a b c
   rw[ex_old hr] at this
   exact (hcut r hr).trans this
  ·show (s.objs.take (Am.cnt s0))[r]?=s0.objs[r]?
   rw[List.getElem?_eq_none (by omega),List.getElem?_eq_none hr]
theorem Tn.at {s0 k m1 m2 s n} (h:Tn s0 k m1 m2 s n) {b} (hk:k<b) (h1:m1<b) (h2:m2<b):TbAt s k b:=by
 obtain⟨w,es1,es2,L,d,t1,t2,t3,t4,t5,t6,t7,t8⟩:=h.tab
 exact⟨m1,m2,w,es1,es2,hk,h1,h2,t1,t2,t3,t4,t5⟩
theorem put_tot {s0 k m1 m2 s n} (c:Con) (hc:(c.fields.map Ty.sz).sum≤900000) (h:Tn s0 k m1 m2 s n) (hn:n+1≤900000):W (C F0 X0 78 [.ref k 0,c.av] s) fun q=>q.1=.tup []∧Tn s0 k m1 m2 q.2 (n+1):=by
 have hF:=h
 obtain⟨w,es1,es2,L,d,t1,t2,t3,t4,t5,t6,t7,t8⟩:=h.tab
 have lk:=obj_lt t1
 have l1:=obj_lt t2
 have l2:=obj_lt t3
 have n23:m2≠k:=fun e=>h.n2 e.symm
 rw[w_call (f:=78) rfl]
 obtain⟨v',A',N',d',k1,k2,k3,k4,k5,k6⟩:=t6.push' (y:=.s c.name) [.s c.name] rfl (ele_one rfl) (by rw[strs_len];unfold most;omega)
 have k1':∀ l,agrow (newAr (Am.ex (setOb s m2 (.map (setE c.name c.av es2))) l) [.s c.name]) .one 1 [.s c.name] w=some (v',wa (Am.ex (setOb s m2 (.map (setE c.name c.av es2))) l) A' N'):=fun l=>k1 (Am.ex (setOb s m2 (.map (setE c.name c.av es2))) l)
 have o2:obj (setOb s m2 (.map (setE c.name c.av es2))) k=some (.cells [.mp m1,.mp m2,w]):=(obj_set' n23).trans t1
 have hcut:∀ (s:St) r o r' o',cnt (setOb (setOb s r o) r' o')=cnt s:=fun s r o r' o'=>by rw[cnt_set,cnt_set]
 simp only[go_sem,reduceCtorEq,↓reduceIte,nA,nB,nC,nD,nE,iA,iB,iC,iD,iE,iF,lk,l2,t1,t3,o2,k1',k2.low,k2.one]
 refine hF.back ⟨by rw[wa_cnt,cnt_set,cnt_set];exact hF.cnt,fun r a b e=>?_,hF.hk,hF.h1,hF.h2,hF.n1,hF.n2,hF.n3,fun a ha=>(k4 a (Nat.lt_of_lt_of_le ha hF.nx) (fun hd=>by have:=t8 a hd;omega)).trans (hF.old a ha),Nat.le_trans hF.nx k3,v',es1,setE c.name c.av es2,L++[c.name],d',?_,?_,?_,t4,setE_all ⟨c,rfl,hc⟩ t5,strs_push▸k2,by simp;omega,fun a ha=>Nat.le_trans hF.nx (k5 a ha)⟩
 ·rw[wa_obj,obj_set' (fun h=>a h.symm),obj_set' (fun h=>e h.symm)];exact hF.oth r a b e
 ·rw[wa_obj,obj_set (by rw[cnt_set];exact lk)]
 ·rw[wa_obj,obj_set' hF.n1,obj_set' (fun h=>hF.n3 h.symm)];exact t2
 ·rw[wa_obj,obj_set' hF.n2,obj_set l2]
theorem name_tot {s0 k m1 m2 s n} (x:Data) (hx:x.params.length≤900000) (h:Tn s0 k m1 m2 s n):W (C F0 X0 42 [.ref k 0,x.av] s) fun q=>∃ e,q.1=.i .i64 e∧Tn s0 k m1 m2 q.2 n:=by
 have hF:=h
 obtain⟨w,es1,es2,L,d,t1,t2,t3,t4,t5,t6,t7,t8⟩:=h.tab
 have lk:=obj_lt t1
 have l1:=obj_lt t2
 have l2:=obj_lt t3
 rw[w_call (f:=42) rfl]
 cases hf:findE x.name es1 with
 | some q =>
  obtain⟨c,rfl⟩:=findE_all t4 hf
  simp only[go_sem,reduceCtorEq,↓reduceIte,nA,nB,nC,nD,nE,iA,iB,iC,iD,iE,iF,lk,l1,t1,t2,hf]
  exact⟨_,rfl,hF⟩
 | none =>
  simp only[go_sem,reduceCtorEq,↓reduceIte,nA,nB,nC,nD,nE,iA,iB,iC,iD,iE,iF,lk,l1,t1,t2,hf,strs_len]
  refine W.step (W.range (n:=x.params.length) (Q:=fun q=>(q=(.ret,[(4,.i .i64 80)],ex s [.cells x.av.cells]))∨q=(.exit 0,[(0,.ref k 0),(3,.ref (cnt s) 0),(21,lst .one (strs x.params)),(22,.i .i64 (x.params.length:Int)),(23,.i .i64 (x.params.length:Int)),(24,.b false)],ex s [.cells x.av.cells])) (L:=l42_0) rfl (fun i E t=>E=[(0,.ref k 0),(3,.ref (cnt s) 0),(21,lst .one (strs x.params)),(22,.i .i64 (x.params.length:Int)),(23,.i .i64 (i:Int))]∧t=ex s [.cells x.av.cells]) ?_ ?_ 0 _ _ (Nat.zero_le _) ⟨rfl,by rw[Data.cells_eq]⟩) ?_
  ·rintro i E t ⟨rfl,rfl⟩ hi
   have h0:=List.getElem?_eq_getElem hi
   generalize x.params[i]=a at h0
   have g1:∀ k,aiad .one (lst .one (strs x.params)) (.i k (i:Int))=some (.ep [.s a] 0):=fun k=>lst_iad (x:=.s a) rfl (by simp[strs,h0])
   have g3:decide ((i:Int)<(x.params.length:Int))=true:=by simp;omega
   have g5:=@wrap_one i (by omega)
   have g7:∀ k,aslice false (lst .one (strs x.params)) none (some (.i k (i:Int)))=some (.sl .one (strs (x.params.take i))):=fun k=>by
    cases hp:x.params with
    | nil=>rw[hp] at hi;simp at hi
    | cons y ys =>
     show (if 0≤(i:Int)∧(i:Int)≤(List.length (strs (y::ys)):Nat) then some (AV.sl .one ((strs (y::ys)).take (i:Int).toNat)) else none)=_
     rw[hp] at hi
     rw[if_pos ⟨by omega,by rw[strs_len];omega⟩,Int.toNat_natCast]
     simp[strs]
   have hrd:∀ A,Rd A .one (.sl .one (strs (x.params.take i))) (strs (x.params.take i)):=fun A=>by
    cases hp:x.params.take i with
    | nil=>exact⟨rfl,fun _=>rfl,rfl,fun _ _=>rfl,fun i x hx=>by cases hx⟩
    | cons y ys=>exact (Rd.lst strs_ele:Rd A .one (lst .one (strs (y::ys))) (strs (y::ys)))
   obtain⟨m,hp⟩:=place_tot a (ex s [.cells x.av.cells]) (hrd _) (by rw[List.length_take];omega)
   rw[Data.cells_eq] at hp
   simp only[go_sem,reduceCtorEq,↓reduceIte,nA,nB,nC,nD,nE,iA,iB,iC,iD,iE,iF,g1,g3,g5,g7,hp,Nat.le_refl]
   refine W.ifc (fun h=>?_) (fun h=>?_)
   ·simp only[go_sem,reduceCtorEq,↓reduceIte,nA,nB,nC,nD,nE,iA,iB,iC,iD,iE,iF,h]
    exact .inl trivial
   ·simp only[go_sem,reduceCtorEq,↓reduceIte,nA,nB,nC,nD,nE,iA,iB,iC,iD,iE,iF,h,g5]
  ·rintro E t ⟨rfl,rfl⟩
   have g3:decide ((x.params.length:Int)<(x.params.length:Int))=false:=by simp
   simp only[go_sem,reduceCtorEq,↓reduceIte,nA,nB,nC,nD,nE,iA,iB,iC,iD,iE,iF,g3]
   exact .inr trivial
  ·rintro q (rfl|rfl)
   ·simp only[go_sem,reduceCtorEq,↓reduceIte,nA,nB,nC,nD,nE,iA,iB,iC,iD,iE,iF]
    exact⟨_,rfl,hF⟩
   ·simp only[go_sem,reduceCtorEq,↓reduceIte,nA,nB,nC,nD,nE,iA,iB,iC,iD,iE,iF,lk,l1,t1,t2,strs_len]
    refine⟨_,rfl,by rw[cnt_set];exact hF.cnt,fun r a b e=>?_,hF.hk,hF.h1,hF.h2,hF.n1,hF.n2,hF.n3,hF.old,hF.nx,w,_,es2,L,d,?_,obj_set l1,?_,setE_all ⟨_,rfl⟩ t4,t5,t6,t7,t8⟩
    ·rw[obj_set' (fun h=>b h.symm)];exact hF.oth r a b e
    ·rw[obj_set' (fun h=>hF.n1 h.symm)];exact t1
    ·rw[obj_set' hF.n3];exact t3
theorem Tn.mono {s0 k m1 m2 s n n'} (h:Tn s0 k m1 m2 s n) (hn:n≤n'):Tn s0 k m1 m2 s n':=by
 obtain⟨w,es1,es2,L,d,t1,t2,t3,t4,t5,t6,t7,t8⟩:=h.tab
 exact⟨h.cnt,h.oth,h.hk,h.h1,h.h2,h.n1,h.n2,h.n3,h.old,h.nx,w,es1,es2,L,d,t1,t2,t3,t4,t5,t6,Nat.le_trans t7 hn,t8⟩
theorem Tn.wa {s0 k m1 m2 s n A N} (h:Tn s0 k m1 m2 s n) (ho:Old s.nxt A s.arr) (hn:s.nxt≤N):Tn s0 k m1 m2 (Am.wa s A N) n:=by
 obtain⟨w,es1,es2,L,d,t1,t2,t3,t4,t5,t6,t7,t8⟩:=h.tab
 exact⟨h.cnt,h.oth,h.hk,h.h1,h.h2,h.n1,h.n2,h.n3,fun a ha=>(ho a (Nat.lt_of_lt_of_le ha h.nx)).trans (h.old a ha),Nat.le_trans h.nx hn,w,es1,es2,L,d,t1,t2,t3,t4,t5,t6.mono fun a ha=>⟨ho a (t6.lt ha),Nat.lt_of_lt_of_le (t6.lt ha) hn⟩,t7,t8⟩
theorem con_tot {s0 k m1 m2 s n} (x:Data) (c:Constr) (tag:Int) (hx:x.params.length≤900000) (hc:c.sz≤900000) (h:Tn s0 k m1 m2 s n) (hn:n+1≤900000):W (C F0 X0 43 [.ref k 0,x.av,.i .i64 tag,c.av] s) fun q=>∃ e,q.1=.i .i64 e∧Tn s0 k m1 m2 q.2 (n+1):=by
 have hF:=h
 obtain⟨w,es1,es2,L,d,t1,t2,t3,t4,t5,t6,t7,t8⟩:=h.tab
 have lk:=obj_lt t1
 have l1:=obj_lt t2
 have l2:=obj_lt t3
 have hsz:(c.fields.map Ty.sz).sum<c.sz:=by unfold Constr.sz;rw[Ty.szs_sum];omega
 have hlen:=Ty.szs_len c.fields
 have hmono:=hF.mono (Nat.le_succ n)
 rw[w_call (f:=43) rfl]
 have zero:AV.agg [.s [],.s [],.i .i64 0,.i .i64 0,.nsl]=(⟨[],[],0,0,[]⟩:Con).av:=rfl
 have early:∀ (q:Con),findE c.name es2=some q.av→W ((E F0 X0 (cnt s) a43.body (args0 0 [.ref k 0,x.av,.i .i64 tag,c.av]) s).bind (fk s a43.res a43.fz)) fun q=>∃ e,q.1=.i .i64 e∧Tn s0 k m1 m2 q.2 (n+1):=by
  intro q hf
  unfold a43
  simp only[go_sem,reduceCtorEq,↓reduceIte,nA,nB,nC,nD,nE,iA,iB,iC,iD,iE,iF,lk,l2,t1,t3,hf]
  exact⟨_,rfl,hmono⟩
 cases hf:findE c.name es2 with
 | some q =>
  obtain⟨q,rfl,hq⟩:=findE_all t5 hf
  exact early q hf
 | none =>
  obtain⟨l0,hl0⟩:∃ l0:List Ob,l0=[.cells x.av.cells,.cells c.av.cells,.cells [.s [],.s [],.i .i64 0,.i .i64 0,.nsl]]:=⟨_,rfl⟩
  have hl0':=hl0
  rw[Data.cells_eq,Constr.cells_eq] at hl0'
  simp only[go_sem,reduceCtorEq,↓reduceIte,nA,nB,nC,nD,nE,iA,iB,iC,iD,iE,iF,lk,l2,t1,t3,hf,strs_len]
  obtain⟨lv,hlv⟩:∃ lv:AV→List Ob,lv=fun v=>[.cells x.av.cells,.cells c.av.cells,.cells [.s [],.s [],.i .i64 0,.i .i64 0,.nsl],.cells [.s c.name,.s x.name,.i .i64 tag,.i .i64 (x.params.length:Nat),v]]:=⟨_,rfl⟩
  have hlv':=hlv
  rw[Data.cells_eq,Constr.cells_eq] at hlv'
  refine W.step (W.range (n:=c.fields.length) (Q:=fun q=>(∃ (v:AV) (ys:List Ty) (A:Nat→Option (List AV)) (N:Nat),q=(.exit 0,[(0,.ref k 0),(5,.ref (cnt s) 0),(11,.ref (cnt s+3) 0),(37,lst (.st 4) (c.fields.map Ty.av)),(38,.i .i64 (c.fields.length:Int)),(39,.i .i64 (c.fields.length:Int)),(40,.b false)],wa (ex s (lv v)) A N)∧Loc s.arr s.nxt A N (.st 4) v (ys.map Ty.av)∧(ys.map Ty.sz).sum≤(c.fields.map Ty.sz).sum)∨∃ (v:AV) (A:Nat→Option (List AV)) (N:Nat) (e:Int),q=(.ret,[(8,.i .i64 e)],wa (ex s (lv v)) A N)∧Old s.nxt A s.arr∧s.nxt≤N) (L:=l43_0) rfl (fun i E t=>∃ (v:AV) (ys:List Ty) (A:Nat→Option (List AV)) (N:Nat),E=[(0,.ref k 0),(5,.ref (cnt s) 0),(11,.ref (cnt s+3) 0),(37,lst (.st 4) (c.fields.map Ty.av)),(38,.i .i64 (c.fields.length:Int)),(39,.i .i64 (i:Int))]∧t=wa (ex s (lv v)) A N∧Loc s.arr s.nxt A N (.st 4) v (ys.map Ty.av)∧(ys.map Ty.sz).sum≤psum Ty.sz c.fields i) ?_ ?_ 0 _ _ (Nat.zero_le _) ⟨.nsl,[],s.arr,s.nxt,rfl,by rw[hlv'];rfl,Loc.nil,Nat.le_refl _⟩) ?_
  ·rintro i E t ⟨v,ys,A,N,rfl,rfl,hL,hy⟩ hi
   have h0:=List.getElem?_eq_getElem hi
   generalize c.fields[i]=a at h0
   have g1:∀ k,aiad (.st 4) (lst (.st 4) (c.fields.map Ty.av)) (.i k (i:Int))=some (.ep a.av.cells 0):=fun k=>lst_iad rfl (by rw[List.getElem?_map,h0];rfl)
   have g3:decide ((i:Int)<(c.fields.length:Int))=true:=by simp;omega
   have g5:=@wrap_one i (by omega)
   have g6:=psum_lt (f:=Ty.sz) h0
   have g7:=psum_succ (f:=Ty.sz) h0
   have g8:=Ty.szs_len ys
   have g9:∃ d,Gr A N (.st 4) v (ys.map Ty.av) d∧(∀ a,d=some a→s.nxt≤a)∧Old s.nxt A s.arr∧s.nxt≤N∧(ys.map Ty.av=[]→v=.nsl):=hL
   obtain⟨-,-,-,ho,hN,-⟩:=g9
   have hcx:cnt (ex s (lv v))=cnt s+4:=by rw[ex_cnt,hlv];rfl
   obtain⟨y,e,hys,hcl⟩:=field_tot _ a (Nat.lt_succ_self _) (by omega) x.params k (cnt s) (wa (ex (ex s (lv v)) [.cells a.av.cells]) A N) hx (((hF.at lk l1 l2).ex (Nat.le_refl _)).ex (by rw[hcx];omega)) (by rw[wa_cnt,ex_cnt,hcx];omega)
   rw[hlv',ex_ex,Ty.cells_eq,List.cons_append,List.cons_append,List.cons_append,List.cons_append,List.nil_append] at hcl
   obtain⟨v',A',N',k1,k2⟩:=hL.push (y:=y.av) (cy:=y.av.cells) rfl y.ele (by simp;unfold most;omega)
   rw[Ty.cells_eq] at k1
   have e1:ys.map Ty.av++[y.av]=(ys++[y]).map Ty.av:=by simp
   rw[e1] at k2
   have hone:v'.cells=[v']:=by obtain⟨d,h,-⟩:=k2;exact h.one
   simp only[go_sem,reduceCtorEq,↓reduceIte,nA,nB,nC,nD,nE,iA,iB,iC,iD,iE,iF,g1,g3,lk,Nat.le_refl,hlv',hcl]
   refine W.ifc (fun h=>?_) (fun h=>?_)
   ·simp only[go_sem,reduceCtorEq,↓reduceIte,nA,nB,nC,nD,nE,iA,iB,iC,iD,iE,iF,h,lk,g5,hL.low,Nat.le_refl]
    exact .inr ⟨v,A,N,e,rfl,ho,hN⟩
   ·simp only[go_sem,reduceCtorEq,↓reduceIte,nA,nB,nC,nD,nE,iA,iB,iC,iD,iE,iF,h,lk,g5,k1,k2.low,hone,hL.low,Nat.le_refl]
    exact⟨v',ys++[y],A',N',rfl,k2,by simp;omega⟩
  ·rintro E t ⟨v,ys,A,N,rfl,rfl,hL,hy⟩
   have g3:decide ((c.fields.length:Int)<(c.fields.length:Int))=false:=by simp
   have g6:=@psum_le _ Ty.sz c.fields c.fields.length
   simp only[go_sem,reduceCtorEq,↓reduceIte,nA,nB,nC,nD,nE,iA,iB,iC,iD,iE,iF,g3,lk,hlv']
   exact .inl ⟨v,ys,A,N,rfl,hL,by omega⟩
  ·rintro q (⟨v,ys,A,N,rfl,hL,hy⟩|⟨v,A,N,e,rfl,ho,hN⟩)
   ·obtain⟨A',f1,f2⟩:=hL.fin
    simp only[go_sem,reduceCtorEq,↓reduceIte,nA,nB,nC,nD,nE,iA,iB,iC,iD,iE,iF,lk,hlv']
    simp only[go_sem,reduceCtorEq,↓reduceIte,nA,nB,nC,nD,nE,iA,iB,iC,iD,iE,iF,f1 19997]
    have hN:s.nxt≤N:=by obtain⟨d,-,-,-,h,-⟩:=hL;exact h
    have hlvv:=congrFun hlv' v
    rw[←hlvv]
    have hx:=put_tot ⟨c.name,x.name,tag,(x.params.length:Nat),ys⟩ (by show (ys.map Ty.sz).sum≤900000;omega) ((hF.wa f2 hN).ex (lv v)) hn
    refine W.step hx ?_
    rintro⟨u,s2⟩ ⟨rfl,j1⟩
    obtain⟨t2,rfl,j2⟩:=j1.unex hF.hk hF.h1 hF.h2
    have c2:cnt t2=cnt s:=j2.cnt.trans hF.cnt.symm
    simp only[go_sem,reduceCtorEq,↓reduceIte,nA,nB,nC,nD,nE,iA,iB,iC,iD,iE,iF,c2]
    exact⟨_,rfl,hF.back j2⟩
   ·simp only[go_sem,reduceCtorEq,↓reduceIte,nA,nB,nC,nD,nE,iA,iB,iC,iD,iE,iF,hlv']
    exact⟨_,rfl,hF.back (hmono.wa ho hN)⟩
end Go.Am
namespace Go.Am
open Go
theorem cut_no {n v} {s:St} (h:v.low n=false):cut n v s=s:=by unfold cut;rw[if_neg (by rw[h];exact Bool.false_ne_true)]
theorem Tn.back0 {s:St} {l:List Ob} {k m1 m2 t n v} (h:Tn (Am.ex s l) k m1 m2 t n) (hk:Am.cnt s≤k):Tn (Am.ex s l) k m1 m2 (Am.back s v t) n:=by
 unfold Am.back
 split
 ·rename_i hc
  obtain⟨c1,c2,c3⟩:=hc
  obtain⟨w,es1,es2,L,d,t1,t2,t3,t4,t5,t6,t7,t8⟩:=h.tab
  have hlow:w.alow s.nxt=true:=by
   rcases c3 k _ t1 with h3|h3
   ·rw[List.getElem?_eq_none hk] at h3;cases h3
   ·replace h3:(true&&(true&&(w.alow s.nxt&&true)))=true:=h3
    simpa using h3
  exact⟨h.cnt,h.oth,h.hk,h.h1,h.h2,h.n1,h.n2,h.n3,Old.refl,Nat.le_refl _,w,es1,es2,L,d,t1,t2,t3,t4,t5,t6.mono fun a ha=>⟨(c1 a (t6.alow' hlow ha)).symm,t6.alow' hlow ha⟩,t7,t8⟩
 ·exact h
def t0 (s:St):St:=ex s [.map [],.map [],.cells [.mp (cnt s),.mp (cnt s+1),.nsl]]
theorem basic_tot (s:St):W (C F0 X0 41 [] s) fun q=>q.1=.ref (cnt s+2) 0∧Tn (t0 s) (cnt s+2) (cnt s) (cnt s+1) q.2 2:=by
 have B:Tn (t0 s) (cnt s+2) (cnt s) (cnt s+1) (ex s [.map [([73,110,116],.i .i64 0),([66,111,111,108],.i .i64 0)],.map [],.cells [.mp (cnt s),.mp (cnt s+1),.nsl]]) 0:=by
  refine⟨by unfold t0;rw[ex_cnt,ex_cnt];rfl,fun r a b c=>?_,by unfold t0;rw[ex_cnt];show cnt s+2<cnt s+3;omega,by unfold t0;rw[ex_cnt];show cnt s<cnt s+3;omega,by unfold t0;rw[ex_cnt];show cnt s+1<cnt s+3;omega,by omega,by omega,by omega,Old.refl,Nat.le_refl _,.nsl,_,[],[],none,ex_obj,ex_obj0,ex_obj,?_,(fun e h=>nomatch h),Gr.nil,Nat.le_refl _,(fun a h=>nomatch h)⟩
  ·unfold t0
   rcases Nat.lt_or_ge r (cnt s) with hr|hr
   ·rw[ex_old hr,ex_old hr]
   ·obtain⟨i,rfl⟩:=Nat.exists_eq_add_of_le hr
    rw[ex_obj,ex_obj]
    match i with
    | 0=>exact absurd rfl b
    | 1=>exact absurd rfl c
    | 2=>exact absurd rfl a
    | i+3=>rfl
  ·intro e he
   simp only[List.mem_cons,List.not_mem_nil,or_false] at he
   rcases he with rfl|rfl<;>exact⟨0,rfl⟩
 rw[w_call (f:=41) rfl]
 have hs1:setE [73,110,116] (.i .i64 0) []=[([73,110,116],AV.i .i64 0)]:=rfl
 have hs2:setE [66,111,111,108] (.i .i64 0) [([73,110,116],AV.i .i64 0)]=[([73,110,116],AV.i .i64 0),([66,111,111,108],.i .i64 0)]:=rfl
 simp only[go_sem,reduceCtorEq,↓reduceIte,nA,nB,nC,nD,nE,iA,iB,iC,iD,iE,iF,hs1,hs2]
 refine W.step (put_tot ⟨[70,97,108,115,101],[66,111,111,108],0,0,[]⟩ (Nat.zero_le _) B (by omega)) ?_
 rintro⟨u,s2⟩ ⟨rfl,j1⟩
 simp only[go_sem,reduceCtorEq,↓reduceIte,nA,nB,nC,nD,nE,iA,iB,iC,iD,iE,iF]
 refine W.step (put_tot ⟨[84,114,117,101],[66,111,111,108],1,0,[]⟩ (Nat.zero_le _) j1 (by omega)) ?_
 rintro⟨u,s3⟩ ⟨rfl,j2⟩
 have hcut:cut (cnt s) (.ref (cnt s+2) 0) s3=s3:=cut_no (decide_eq_false (by omega))
 simp only[go_sem,reduceCtorEq,↓reduceIte,nA,nB,nC,nD,nE,iA,iB,iC,iD,iE,iF,hcut]
 exact Tn.back0 j2 (Nat.le_add_right _ _)
def Made (s t:St) (k:Nat):Prop:=TbAt t k (cnt t)∧cnt s≤cnt t∧(∀ r,r<cnt s→obj t r=obj s r)∧Old s.nxt t.arr s.arr∧s.nxt≤t.nxt
theorem Made.of {s:St} {l:List Ob} {k m1 m2 t n} (h:Tn (ex s l) k m1 m2 t n) (hk:cnt s≤k) (h1:cnt s≤m1) (h2:cnt s≤m2):Made s t k:=by
 have hc:=h.cnt
 refine⟨h.at (by rw[hc];exact h.hk) (by rw[hc];exact h.h1) (by rw[hc];exact h.h2),by rw[hc,ex_cnt];omega,fun r hr=>?_,h.old,h.nx⟩
 rw[h.oth r (by omega) (by omega) (by omega),ex_old hr]
theorem Made.back {s t k v} (h:Made s t k):Made s (Am.back s v t) k:=by
 unfold Am.back
 split
 ·rename_i hc
  obtain⟨a,b,c,d,e⟩:=h
  exact⟨a,b,c,Old.refl,Nat.le_refl _⟩
 ·exact h
def flt (e l c:Int):AV:=.agg [.i .i64 e,.i .i64 l,.i .i64 c]
theorem New_tot (ds:List Data) (hds:(ds.map Data.sz).sum≤800000) (s:St):W (C F0 X0 19 [lst (.st 5) (ds.map Data.av)] s) fun q=>(∃ e l c,e≠0∧q=(.tup [.np,flt e l c],s))∨∃ k,q.1=.tup [.ref k 0,flt 0 0 0]∧cnt s≤k∧Made s q.2 k:=by
 have hlen:=Data.szs_len ds
 rw[w_call (f:=19) rfl]
 simp only[go_sem,reduceCtorEq,↓reduceIte,nA,nB,nC,nD,nE,iA,iB,iC,iD,iE,iF]
 have hb:=basic_tot (ex s [.cells [.i .i64 0,.i .i64 0,.i .i64 0]])
 refine W.step hb ?_
 rintro⟨u,t0'⟩ ⟨rfl,j0⟩
 obtain⟨s0,hs0⟩:∃ s0,s0=t0 (ex s [.cells [.i .i64 0,.i .i64 0,.i .i64 0]]):=⟨_,rfl⟩
 have hs0':s0=ex s [.cells [.i .i64 0,.i .i64 0,.i .i64 0],.map [],.map [],.cells [.mp (cnt s+1),.mp (cnt s+2),.nsl]]:=by rw[hs0];unfold t0;rw[ex_ex,ex_cnt];rfl
 rw[←hs0] at j0
 rw[ex_cnt] at j0
 replace j0:Tn s0 (cnt s+3) (cnt s+1) (cnt s+2) t0' 2:=j0
 have hc0:cnt s0=cnt s+4:=by rw[hs0',ex_cnt];rfl
 have o3:∀ {t n},Tn s0 (cnt s+3) (cnt s+1) (cnt s+2) t n→obj t (cnt s)=some (.cells [.i .i64 0,.i .i64 0,.i .i64 0])∧cnt t=cnt s+4:=fun h=>⟨(h.oth _ (by omega) (by omega) (by omega)).trans (by rw[hs0',ex_obj0];rfl),h.cnt.trans hc0⟩
 have bad:∀ {t n} (e l c:Int),Tn s0 (cnt s+3) (cnt s+1) (cnt s+2) t n→∀ v:AV,v.low (cnt s)=true→v.alow s.nxt=true→back s v (cut (cnt s) v (setOb t (cnt s) (.cells [.i .i64 e,.i .i64 l,.i .i64 c])))=s:=fun {t n} e l c h v hv ha=>by
  have hc:=(o3 h).2
  rw[cut_eq (s:=s) hv (by rw[cnt_set];omega) (fun r hr=>by rw[obj_set' (by omega),h.oth r (by omega) (by omega) (by omega),hs0',ex_old hr])]
  have ho:=h.old
  rw[hs0'] at ho
  exact back_wa ho ha
 simp only[go_sem,reduceCtorEq,↓reduceIte,nA,nB,nC,nD,nE,iA,iB,iC,iD,iE,iF]
 refine W.step (W.range (n:=ds.length) (Q:=fun q=>(∃ E t,q=(.exit 0,E,t)∧get E 0=some (lst (.st 5) (ds.map Data.av))∧get E 3=some (.ref (cnt s) 0)∧get E 4=some (.ref (cnt s+3) 0)∧Tn s0 (cnt s+3) (cnt s+1) (cnt s+2) t 2)∨∃ t e l c,e≠0∧q=(.ret,[(2,.np),(3,.ref (cnt s) 0)],setOb t (cnt s) (.cells [.i .i64 e,.i .i64 l,.i .i64 c]))∧Tn s0 (cnt s+3) (cnt s+1) (cnt s+2) t 2) (L:=l19_0) rfl (fun i E t=>E=[(0,lst (.st 5) (ds.map Data.av)),(3,.ref (cnt s) 0),(4,.ref (cnt s+3) 0),(14,lst (.st 5) (ds.map Data.av)),(15,.i .i64 (ds.length:Int)),(16,.i .i64 (i:Int))]∧Tn s0 (cnt s+3) (cnt s+1) (cnt s+2) t 2) ?_ ?_ 0 _ _ (Nat.zero_le _) ⟨rfl,j0⟩) ?_
 ·rintro i E t ⟨rfl,ht⟩ hi
  have h0:=List.getElem?_eq_getElem hi
  generalize ds[i]=d at h0
  have g1:∀ k,aiad (.st 5) (lst (.st 5) (ds.map Data.av)) (.i k (i:Int))=some (.ep d.av.cells 0):=fun k=>lst_iad rfl (by rw[List.getElem?_map,h0];rfl)
  have g3:decide ((i:Int)<(ds.length:Int))=true:=by simp;omega
  have g5:=@wrap_one i (by omega)
  have g6:=psum_lt (f:=Data.sz) h0
  obtain⟨oc,hc⟩:=o3 ht
  have hp0:1+d.params.length≤d.sz:=by unfold Data.sz;omega
  have hp:d.params.length≤900000:=by omega
  simp only[go_sem,reduceCtorEq,↓reduceIte,nA,nB,nC,nD,nE,iA,iB,iC,iD,iE,iF,g1,g3,hc,Nat.le_refl]
  have hx:=name_tot d hp (ht.ex [.cells d.av.cells])
  rw[Data.cells_eq] at hx
  refine W.step hx ?_
  rintro⟨u,s2⟩ ⟨e,rfl,k1⟩
  obtain⟨t2,rfl,k2⟩:=k1.unex ht.hk ht.h1 ht.h2
  obtain⟨oc2,hc2⟩:=o3 k2
  simp only[go_sem,reduceCtorEq,↓reduceIte,nA,nB,nC,nD,nE,iA,iB,iC,iD,iE,iF]
  refine W.ifc (fun h=>?_) (fun h=>?_)
  ·simp only[go_sem,reduceCtorEq,↓reduceIte,nA,nB,nC,nD,nE,iA,iB,iC,iD,iE,iF,h,hc2,oc2]
   exact .inr ⟨t2,e,_,_,by simpa using h,rfl,k2⟩
  ·simp only[go_sem,reduceCtorEq,↓reduceIte,nA,nB,nC,nD,nE,iA,iB,iC,iD,iE,iF,h,hc2,oc2,g5]
   exact k2
 ·rintro E t ⟨rfl,ht⟩
  have g3:decide ((ds.length:Int)<(ds.length:Int))=false:=by simp
  obtain⟨oc,hc⟩:=o3 ht
  simp only[go_sem,reduceCtorEq,↓reduceIte,nA,nB,nC,nD,nE,iA,iB,iC,iD,iE,iF,g3,hc]
  exact .inl ⟨_,_,rfl,rfl,rfl,rfl,ht⟩
 ·rintro q (⟨E,t,rfl,e0,e3,e4,ht⟩|⟨t,e,l,c,he,rfl,ht⟩)
  rotate_left
  ·obtain⟨oc,hc⟩:=o3 ht
   have lc:cnt s<cnt t:=by omega
   have hend:=bad e l c ht (.tup [.np,.agg [.i .i64 e,.i .i64 l,.i .i64 c]]) rfl rfl
   simp only[go_sem,reduceCtorEq,↓reduceIte,nA,nB,nC,nD,nE,iA,iB,iC,iD,iE,iF,lc]
   rw[hend]
   exact .inl ⟨e,l,c,he,rfl⟩
  simp only[go_sem,reduceCtorEq,↓reduceIte,nA,nB,nC,nD,nE,iA,iB,iC,iD,iE,iF,e0,e3,e4]
  refine W.step (W.range (n:=ds.length) (Q:=fun q=>(∃ E t n,q=(.exit 2,E,t)∧get E 3=some (.ref (cnt s) 0)∧get E 4=some (.ref (cnt s+3) 0)∧Tn s0 (cnt s+3) (cnt s+1) (cnt s+2) t n)∨∃ t n e l c,e≠0∧q=(.ret,[(2,.np),(3,.ref (cnt s) 0)],setOb t (cnt s) (.cells [.i .i64 e,.i .i64 l,.i .i64 c]))∧Tn s0 (cnt s+3) (cnt s+1) (cnt s+2) t n) (L:=l19_2) rfl (fun i E t=>E=[(3,.ref (cnt s) 0),(4,.ref (cnt s+3) 0),(30,lst (.st 5) (ds.map Data.av)),(31,.i .i64 (ds.length:Int)),(32,.i .i64 (i:Int))]∧Tn s0 (cnt s+3) (cnt s+1) (cnt s+2) t (2+psum Data.sz ds i)) ?_ ?_ 0 _ _ (Nat.zero_le _) ⟨rfl,ht⟩) ?_
  ·rintro i E t ⟨rfl,ht⟩ hi
   have h0:=List.getElem?_eq_getElem hi
   generalize ds[i]=d at h0
   have g1:∀ k,aiad (.st 5) (lst (.st 5) (ds.map Data.av)) (.i k (i:Int))=some (.ep d.av.cells 0):=fun k=>lst_iad rfl (by rw[List.getElem?_map,h0];rfl)
   have g3:decide ((i:Int)<(ds.length:Int))=true:=by simp;omega
   have g5:=@wrap_one i (by omega)
   have g6:=psum_lt (f:=Data.sz) h0
   have g7:=psum_succ (f:=Data.sz) h0
   obtain⟨oc,hc⟩:=o3 ht
   have hdz:d.sz=1+d.params.length+(d.cons.map Constr.sz).sum:=rfl
   have hcl:=Constr.szs_len d.cons
   have lc:cnt s<cnt t:=by omega
   have lk:cnt s+3<cnt t:=by omega
   simp only[go_sem,reduceCtorEq,↓reduceIte,nA,nB,nC,nD,nE,iA,iB,iC,iD,iE,iF,g1,g3,hc,Nat.le_refl]
   refine W.step (W.range (n:=d.cons.length) (Q:=fun q=>(∃ t2,q=(.exit 4,[(3,.ref (cnt s) 0),(4,.ref (cnt s+3) 0),(9,.ref (cnt s+4) 0),(30,lst (.st 5) (ds.map Data.av)),(31,.i .i64 (ds.length:Int)),(32,.i .i64 (i:Int)),(37,lst (.st 4) (d.cons.map Constr.av)),(38,.i .i64 (d.cons.length:Int)),(39,.i .i64 (d.cons.length:Int)),(40,.b false)],ex t2 [.cells d.av.cells])∧Tn s0 (cnt s+3) (cnt s+1) (cnt s+2) t2 (2+psum Data.sz ds i+(d.cons.map Constr.sz).sum))∨∃ t2 n e l c,e≠0∧q=(.ret,[(2,.np),(3,.ref (cnt s) 0)],ex (setOb t2 (cnt s) (.cells [.i .i64 e,.i .i64 l,.i .i64 c])) [.cells d.av.cells])∧Tn s0 (cnt s+3) (cnt s+1) (cnt s+2) t2 n) (L:=l19_1) rfl (fun j E u=>∃ t2,E=[(3,.ref (cnt s) 0),(4,.ref (cnt s+3) 0),(9,.ref (cnt s+4) 0),(30,lst (.st 5) (ds.map Data.av)),(31,.i .i64 (ds.length:Int)),(32,.i .i64 (i:Int)),(37,lst (.st 4) (d.cons.map Constr.av)),(38,.i .i64 (d.cons.length:Int)),(39,.i .i64 (j:Int))]∧u=ex t2 [.cells d.av.cells]∧Tn s0 (cnt s+3) (cnt s+1) (cnt s+2) t2 (2+psum Data.sz ds i+psum Constr.sz d.cons j)) ?_ ?_ 0 _ _ (Nat.zero_le _) ⟨t,rfl,by rw[Data.cells_eq],ht⟩) ?_
   ·rintro j E u ⟨t2,rfl,rfl,ht2⟩ hj
    have h0':=List.getElem?_eq_getElem hj
    generalize d.cons[j]=c at h0'
    have g1':∀ k,aiad (.st 4) (lst (.st 4) (d.cons.map Constr.av)) (.i k (j:Int))=some (.ep c.av.cells 0):=fun k=>lst_iad rfl (by rw[List.getElem?_map,h0'];rfl)
    have g3':decide ((j:Int)<(d.cons.length:Int))=true:=by simp;omega
    have g5':=@wrap_one j (by omega)
    have g6':=psum_lt (f:=Constr.sz) h0'
    have g7':=psum_succ (f:=Constr.sz) h0'
    have g8':1≤c.sz:=by unfold Constr.sz;omega
    obtain⟨oc2,hc2⟩:=o3 ht2
    have e5:∀ t' a b,cnt t'=cnt s+4→obj (ex t' [a,b]) (cnt s+5)=some b:=fun t' a b h=>ex_obj' (n:=cnt s+4) (i:=1) h
    have e5s:∀ t' a b o,cnt t'=cnt s+4→setOb (ex t' [a,b]) (cnt s+5) o=ex t' [a,o]:=fun t' a b o h=>ex_set' (n:=cnt s+4) (i:=1) h
    have e6:∀ t' a b,cnt t'=cnt s+4→tk (cnt s+5) (ex t' [a,b])=ex t' [a]:=fun t' a b h=>ex_tki' (n:=cnt s+4) (i:=1) h
    simp only[go_sem,reduceCtorEq,↓reduceIte,nA,nB,nC,nD,nE,iA,iB,iC,iD,iE,iF,g1',g3',hc2,Nat.le_refl,e5,e5s]
    have hx:=con_tot d c (j:Int) (by omega) (by omega) (ht2.ex [.cells d.av.cells,.cells c.av.cells]) (by omega)
    rw[Data.cells_eq,Constr.cells_eq] at hx
    refine W.step hx ?_
    rintro⟨v,s2⟩ ⟨e,rfl,k1⟩
    obtain⟨t3,rfl,k2⟩:=k1.unex ht.hk ht.h1 ht.h2
    obtain⟨oc3,hc3⟩:=o3 k2
    have lc3:cnt s<cnt t3:=by omega
    simp only[go_sem,reduceCtorEq,↓reduceIte,nA,nB,nC,nD,nE,iA,iB,iC,iD,iE,iF]
    refine W.ifc (fun h=>?_) (fun h=>?_)
    ·simp only[go_sem,reduceCtorEq,↓reduceIte,nA,nB,nC,nD,nE,iA,iB,iC,iD,iE,iF,h,hc3,oc3,lc3,e6,e5,e5s]
     exact .inr ⟨t3,_,e,_,_,by simpa using h,rfl,k2⟩
    ·simp only[go_sem,reduceCtorEq,↓reduceIte,nA,nB,nC,nD,nE,iA,iB,iC,iD,iE,iF,h,hc3,oc3,g5',e6]
     exact⟨t3,rfl,k2.mono (by omega)⟩
   ·rintro E u ⟨t2,rfl,rfl,ht2⟩
    have g3':decide ((d.cons.length:Int)<(d.cons.length:Int))=false:=by simp
    have g6':=@psum_le _ Constr.sz d.cons d.cons.length
    obtain⟨oc2,hc2⟩:=o3 ht2
    simp only[go_sem,reduceCtorEq,↓reduceIte,nA,nB,nC,nD,nE,iA,iB,iC,iD,iE,iF,g3',hc2]
    exact .inl ⟨t2,rfl,ht2.mono (by omega)⟩
   ·rintro q (⟨t2,rfl,ht2⟩|⟨t2,n,e,l,c,he,rfl,ht2⟩)
    ·obtain⟨oc2,hc2⟩:=o3 ht2
     simp only[go_sem,reduceCtorEq,↓reduceIte,nA,nB,nC,nD,nE,iA,iB,iC,iD,iE,iF,hc2,g5]
     exact ht2.mono (by omega)
    ·obtain⟨oc2,hc2⟩:=o3 ht2
     simp only[go_sem,reduceCtorEq,↓reduceIte,nA,nB,nC,nD,nE,iA,iB,iC,iD,iE,iF,hc2]
     exact .inr ⟨t2,_,e,l,c,he,rfl,ht2⟩
  ·rintro E t ⟨rfl,ht⟩
   have g3:decide ((ds.length:Int)<(ds.length:Int))=false:=by simp
   obtain⟨oc,hc⟩:=o3 ht
   simp only[go_sem,reduceCtorEq,↓reduceIte,nA,nB,nC,nD,nE,iA,iB,iC,iD,iE,iF,g3,hc]
   exact .inl ⟨_,_,_,rfl,rfl,rfl,ht⟩
  ·rintro q (⟨E,t,n,rfl,e3,e4,ht⟩|⟨t,n,e,l,c,he,rfl,ht⟩)
   ·obtain⟨oc,hc⟩:=o3 ht
    have lc:cnt s<cnt t:=by omega
    simp only[go_sem,reduceCtorEq,↓reduceIte,nA,nB,nC,nD,nE,iA,iB,iC,iD,iE,iF,e3,e4,oc,lc]
    rw[set_id oc,cut_no (by show (decide (cnt s+3<cnt s)&&_)=false;rw[decide_eq_false (by omega)];rfl)]
    have hm:=ht
    rw[hs0'] at hm
    exact .inr ⟨cnt s+3,rfl,by omega,(Made.of hm (by omega) (by omega) (by omega)).back⟩
   ·obtain⟨oc,hc⟩:=o3 ht
    have lc:cnt s<cnt t:=by omega
    have hend:=bad e l c ht (.tup [.np,.agg [.i .i64 e,.i .i64 l,.i .i64 c]]) rfl rfl
    simp only[go_sem,reduceCtorEq,↓reduceIte,nA,nB,nC,nD,nE,iA,iB,iC,iD,iE,iF,lc]
    rw[hend]
    exact .inl ⟨e,l,c,he,rfl⟩
end Go.Am
namespace Go.Am
open Go
theorem Name_tot (k:Int) (s:St):∃ t,C F0 X0 81 [.i .i64 k] s=some (.s t,s):=by
 suffices h:W (C F0 X0 81 [.i .i64 k] s) fun q=>∃ t,q=(.s t,s) by
  obtain⟨r,h1,t,rfl⟩:=h;exact⟨t,h1⟩
 rw[w_call (f:=81) rfl]
 simp only[go_sem,reduceCtorEq,↓reduceIte,nA,nB,nC,nD,nE,iA,iB,iC,iD,iE,iF]
 repeat' (refine W.ifc (fun h=>?_) (fun h=>?_)<;>simp only[go_sem,reduceCtorEq,↓reduceIte,nA,nB,nC,nD,nE,iA,iB,iC,iD,iE,iF,h])
 all_goals exact⟨_,rfl⟩
theorem Op_tot (t:Str) (s:St):∃ m,C F0 X0 44 [.s t] s=some (.i .i64 m,s):=by
 suffices h:W (C F0 X0 44 [.s t] s) fun q=>∃ m,q=(.i .i64 m,s) by
  obtain⟨r,h1,m,rfl⟩:=h;exact⟨m,h1⟩
 rw[w_call (f:=44) rfl]
 simp only[go_sem,reduceCtorEq,↓reduceIte,nA,nB,nC,nD,nE,iA,iB,iC,iD,iE,iF]
 refine W.ifc (fun h=>?_) (fun h=>?_)
 ·simp only[go_sem,reduceCtorEq,↓reduceIte,nA,nB,nC,nD,nE,iA,iB,iC,iD,iE,iF,h]
  exact⟨_,rfl⟩
 ·simp only[go_sem,reduceCtorEq,↓reduceIte,nA,nB,nC,nD,nE,iA,iB,iC,iD,iE,iF,h]
  refine W.step (W.range (n:=11) (Q:=fun q=>(∃ e,q=(.exit 0,e,s))∨∃ m,q=(.ret,[(2,.i .i64 m)],s)) (L:=l44_0) rfl (fun i e t'=>e=[(0,.s t),(3,.i .i64 ((i+1:Nat):Int))]∧t'=s) ?_ ?_ 0 _ _ (Nat.zero_le _) ⟨rfl,rfl⟩) ?_
  ·rintro i e t' ⟨rfl,rfl⟩ hi
   have h3:decide (((i+1:Nat):Int)≤11)=true:=by simp;omega
   have h5:=@wrap_one (i+1) (by omega)
   obtain⟨nm,hn⟩:=Name_tot ((i+1:Nat):Int) t'
   simp only[go_sem,reduceCtorEq,↓reduceIte,nA,nB,nC,nD,nE,iA,iB,iC,iD,iE,iF,h3,hn]
   refine W.ifc (fun h=>?_) (fun h=>?_)
   ·simp only[go_sem,reduceCtorEq,↓reduceIte,nA,nB,nC,nD,nE,iA,iB,iC,iD,iE,iF,h]
    exact .inr ⟨_,rfl⟩
   ·simp only[go_sem,reduceCtorEq,↓reduceIte,nA,nB,nC,nD,nE,iA,iB,iC,iD,iE,iF,h,h5]
  ·rintro e t' ⟨rfl,rfl⟩
   have h3:decide (((11+1:Nat):Int)≤11)=false:=by decide
   simp only[go_sem,reduceCtorEq,↓reduceIte,nA,nB,nC,nD,nE,iA,iB,iC,iD,iE,iF,h3]
   exact .inl ⟨_,rfl⟩
  ·rintro q (⟨e,rfl⟩|⟨m,rfl⟩)
   ·simp only[go_sem,reduceCtorEq,↓reduceIte,nA,nB,nC,nD,nE,iA,iB,iC,iD,iE,iF]
    exact⟨_,rfl⟩
   ·simp only[go_sem,reduceCtorEq,↓reduceIte,nA,nB,nC,nD,nE,iA,iB,iC,iD,iE,iF]
    exact⟨_,rfl⟩
def ckc (kt:Nat) (v:AV) (e l c:Int) (b:Bool):Ob:=.cells [.ref kt 0,v,.i .i64 e,.i .i64 l,.i .i64 c,.b b]
theorem fails_tot {kt k v e l c b} (s:St) (x l' c':Int) (ho:obj s k=some (ckc kt v e l c b)):∃ e2 l2 c2 b2,C F0 X0 21 [.ref k 0,.i .i64 x,.agg [.i .i64 l',.i .i64 c']] s=some (.tup [],setOb s k (ckc kt v e2 l2 c2 b2)):=by
 suffices h:W (C F0 X0 21 [.ref k 0,.i .i64 x,.agg [.i .i64 l',.i .i64 c']] s) fun q=>∃ e2 l2 c2 b2,q=(.tup [],setOb s k (ckc kt v e2 l2 c2 b2)) by
  obtain⟨r,h1,e2,l2,c2,b2,rfl⟩:=h;exact⟨e2,l2,c2,b2,h1⟩
 have hk:=obj_lt ho
 have ho2:=ho
 unfold ckc at ho
 rw[w_call (f:=21) rfl]
 simp only[go_sem,reduceCtorEq,↓reduceIte,nA,nB,nC,nD,nE,iA,iB,iC,iD,iE,iF,hk,ho]
 refine W.ifc (fun h=>?_) (fun h=>?_)
 ·simp only[go_sem,reduceCtorEq,↓reduceIte,nA,nB,nC,nD,nE,iA,iB,iC,iD,iE,iF,h,hk]
  exact⟨e,l,c,b,by rw[set_id ho2]⟩
 ·simp only[go_sem,reduceCtorEq,↓reduceIte,nA,nB,nC,nD,nE,iA,iB,iC,iD,iE,iF,h,hk,ho]
  exact⟨x,l',c',true,rfl⟩
structure Ck (s0:St) (D:Nat→Prop) (kt k:Nat) (s:St) (B:List Str):Prop where
 cnt:cnt s=cnt s0
 oth:∀ r,r≠k→obj s r=obj s0 r
 hk:k<Am.cnt s0
 tb:TbAt s0 kt k
 fr:∀ a,a<s0.nxt→¬ D a→s.arr a=s0.arr a
 nx:s0.nxt≤s.nxt
 tab:∃ v e l c b d,obj s k=some (ckc kt v e l c b)∧Gr s.arr s.nxt .one v (strs B) d∧(∀ a,d=some a→D a∨s0.nxt≤a)
theorem Ck.back {s0 D kt k s B s' B' v} (h:Ck s0 D kt k s B) (h':Ck s0 D kt k s' B'):Ck s0 D kt k (back s v s') B':=by
 unfold Am.back
 split
 ·rename_i hc
  obtain⟨c1,c2,c3⟩:=hc
  obtain⟨w,e,l,c,b,d,t1,t2,t3⟩:=h'.tab
  obtain⟨w0,e0,l0,c0,b0,d0,u1,u2,u3⟩:=h.tab
  have hlow:w.alow s.nxt=true:=by
   rcases c3 k _ t1 with h3|h3
   ·rw[show s.objs[k]?=_ from u1] at h3
    injection h3 with h3
    unfold ckc at h3
    injection h3 with h3
    injection h3 with h4 h3
    injection h3 with h5 h3
    rw[←h5]
    exact u2.alow fun a ha=>u2.lt ha
   ·replace h3:(true&&(w.alow s.nxt&&(true&&(true&&(true&&(true&&true))))))=true:=h3
    simpa using h3
  exact⟨h'.cnt,h'.oth,h'.hk,h'.tb,h.fr,h.nx,w,e,l,c,b,d,t1,t2.mono fun a ha=>⟨(c1 a (t2.alow' hlow ha)).symm,t2.alow' hlow ha⟩,t3⟩
 ·exact h'
theorem Ck.ex {s0 D kt k s B} (h:Ck s0 D kt k s B) (l:List Ob):Ck (ex s0 l) D kt k (Am.ex s l) B:=by
 have hc:=h.cnt
 obtain⟨w,e,l1,c,b,d,t1,t2,t3⟩:=h.tab
 refine⟨by rw[ex_cnt,ex_cnt,hc],fun r a=>?_,by rw[ex_cnt];have:=h.hk;omega,h.tb.ex (Nat.le_of_lt h.hk),h.fr,h.nx,w,e,l1,c,b,d,?_,t2,t3⟩
 ·rcases Nat.lt_or_ge r (Am.cnt s) with hr|hr
  ·rw[ex_old hr,ex_old (by omega)];exact h.oth r a
  ·obtain⟨i,rfl⟩:=Nat.exists_eq_add_of_le hr
   rw[ex_obj,hc,ex_obj]
 ·rw[ex_old (obj_lt t1)];exact t1
theorem Ck.unex {s0 D kt k s B} {l:List Ob} (h:Ck (Am.ex s0 l) D kt k s B) (hk:k<Am.cnt s0):∃ s',s=Am.ex s' l∧Ck s0 D kt k s' B:=by
 have hc:=h.cnt
 rw[ex_cnt] at hc
 obtain⟨w,e,l1,c,b,d,t1,t2,t3⟩:=h.tab
 have hl:s.objs.length=Am.cnt s0+l.length:=hc
 have hd:s.objs.drop (Am.cnt s0)=l:=by
  apply List.ext_getElem?
  intro i
  rw[List.getElem?_drop]
  have:=h.oth (Am.cnt s0+i) (by omega)
  rw[ex_obj] at this
  exact this
 have hcut:∀ r,r<Am.cnt s0→(s.objs.take (Am.cnt s0))[r]?=s.objs[r]?:=fun r hr=>by rw[List.getElem?_take,if_pos hr]
 have hcn:(s.objs.take (Am.cnt s0)).length=Am.cnt s0:=by rw[List.length_take];omega
 refine⟨⟨s.objs.take (Am.cnt s0),s.arr,s.nxt⟩,?_,hcn,fun r a=>?_,hk,h.tb.mono fun r hr=>(ex_old (by omega)).symm,h.fr,h.nx,w,e,l1,c,b,d,(hcut _ hk).trans t1,t2,t3⟩
 ·show s=St.mk (s.objs.take (Am.cnt s0)++l) s.arr s.nxt
  rw[←hd,List.take_append_drop]
 ·rcases Nat.lt_or_ge r (Am.cnt s0) with hr|hr
  ·have:=h.oth r a
   rw[ex_old hr] at this
   exact (hcut r hr).trans this
  ·show (s.objs.take (Am.cnt s0))[r]?=s0.objs[r]?
   rw[List.getElem?_eq_none (by omega),List.getElem?_eq_none hr]
theorem Ck.tbl {s0 D kt k s B} (h:Ck s0 D kt k s B):TbAt s kt k:=h.tb.mono fun r hr=>h.oth r (by omega)
theorem Ck.set {s0 D kt k s B v e l c b e2 l2 c2 b2} (h:Ck s0 D kt k s B) (ho:obj s k=some (ckc kt v e l c b)):Ck s0 D kt k (setOb s k (ckc kt v e2 l2 c2 b2)) B:=by
 obtain⟨w,e',l',c',b',d,t1,t2,t3⟩:=h.tab
 rw[ho] at t1
 injection t1 with t1
 unfold ckc at t1
 injection t1 with t1
 injection t1 with _ t1
 injection t1 with t1 _
 subst t1
 exact⟨by rw[cnt_set];exact h.cnt,fun r hr=>by rw[obj_set' (fun h=>hr h.symm)];exact h.oth r hr,h.hk,h.tb,h.fr,h.nx,v,e2,l2,c2,b2,d,obj_set (obj_lt ho),t2,t3⟩
theorem Ck.base {s0 D kt k s B} (h:Ck s0 D kt k s B) (cs:List AV):∃ D',Ck (newAr s cs) D' kt k (newAr s cs) B∧(∀ s' B',Ck (newAr s cs) D' kt k s' B'→Ck s0 D kt k s' B')∧¬ D' s.nxt:=by
 obtain⟨v,e,l,c,b,d,t1,t2,t3⟩:=h.tab
 have hk:k<Am.cnt s:=by rw[h.cnt];exact h.hk
 refine⟨fun a=>d=some a,⟨rfl,fun _ _=>rfl,hk,h.tbl,fun _ _ _=>rfl,Nat.le_refl _,v,e,l,c,b,d,t1,t2.mono fun a ha=>⟨upd_other (by have:=t2.lt ha;omega),by have:=t2.lt ha;show a<s.nxt+1;omega⟩,fun a ha=>.inl ha⟩,fun s' B' h'=>?_,fun hd=>by have:=t2.lt hd;omega⟩
 obtain⟨v',e',l',c',b',d',u1,u2,u3⟩:=h'.tab
 have hn:s.nxt+1≤s'.nxt:=h'.nx
 have hn0:=h.nx
 refine⟨h'.cnt.trans h.cnt,fun r hr=>(h'.oth r hr).trans (h.oth r hr),h.hk,h.tb,fun a ha hD=>?_,by omega,v',e',l',c',b',d',u1,u2,fun a ha=>?_⟩
 ·have:s'.arr a=upd s.arr s.nxt (some cs) a:=h'.fr a (by show a<s.nxt+1;omega) (fun hd=>by rcases t3 a hd with h|h;exact hD h;omega)
  rw[this,upd_other (by omega)]
  exact h.fr a ha hD
 ·rcases u3 a ha with h|h
  ·exact t3 a h
  ·exact .inr (by have:s.nxt+1≤a:=h;omega)
theorem Ck.wa {s0 D kt k s B A N} (h:Ck s0 D kt k s B) (ho:Old s.nxt A s.arr) (hn:s.nxt≤N):Ck s0 D kt k (Am.wa s A N) B:=by
 obtain⟨v,e,l,c,b,d,t1,t2,t3⟩:=h.tab
 exact⟨h.cnt,h.oth,h.hk,h.tb,fun a ha hD=>(ho a (Nat.lt_of_lt_of_le ha h.nx)).trans (h.fr a ha hD),Nat.le_trans h.nx hn,v,e,l,c,b,d,t1,t2.mono fun a ha=>⟨ho a (t2.lt ha),Nat.lt_of_lt_of_le (t2.lt ha) hn⟩,t3⟩
abbrev CT (s0:St) (D:Nat→Prop) (kt k:Nat) (B:List Str) (x:Option (AV × St)):Prop:=W x fun q=>q.1=.tup []∧Ck s0 D kt k q.2 B
theorem cwithin_tot {s0 D kt k s B} {vl:AV} {L:List Str} {g:Nat} {caps:List AV} (h:Ck s0 D kt k s B) (hr:Rd s.arr .one vl (strs L)) (hB:B.length+L.length≤900000)
  (hc:∀ s,Ck s0 D kt k s (B++L)→CT s0 D kt k (B++L) (C F0 X0 g caps s)):CT s0 D kt k B (C F0 X0 45 [.ref k 0,vl,.clo g caps] s):=by
 have hF:=h
 obtain⟨v,e,l,c,b,d,t1,t2,t3⟩:=h.tab
 have hk:=obj_lt t1
 have hfl:=hr.frw s rfl
 have hlen:=t2.len
 rw[strs_len] at hlen
 have t1':=t1
 unfold ckc at t1'
 rw[w_call (f:=45) rfl]
 obtain⟨v',A',N',d',k1,k2,k3,k4,k5,k6⟩:=t2.app' (ys:=strs L) strs_ele (by rw[strs_len,strs_len];unfold most;omega)
 rw[strs_app] at k2
 have k1':agrow s .one (strs L).length ((strs L).flatMap AV.cells) v=some (v',Am.wa s A' N'):=k1 s
 simp only[go_sem,reduceCtorEq,↓reduceIte,nA,nB,nC,nD,nE,iA,iB,iC,iD,iE,iF,hk,hlen,hfl,t1',k1',k2.low,k2.one]
 have h1:Ck s0 D kt k (Am.wa (setOb s k (ckc kt v' e l c b)) A' N') (B++L):=by
  refine⟨by rw[wa_cnt,cnt_set];exact hF.cnt,fun r hr=>by rw[wa_obj,obj_set' (fun h=>hr h.symm)];exact hF.oth r hr,hF.hk,hF.tb,fun a ha hD=>?_,Nat.le_trans hF.nx k3,v',e,l,c,b,d',?_,k2,fun a ha=>?_⟩
  ·exact (k4 a (Nat.lt_of_lt_of_le ha hF.nx) (fun hd=>by rcases t3 a hd with h|h;exact hD h;omega)).trans (hF.fr a ha hD)
  ·rw[wa_obj,obj_set hk]
  ·rcases k5 a ha with h|h
   ·exact t3 a h
   ·exact .inr (Nat.le_trans hF.nx h)
 refine W.step (hc _ h1) ?_
 rintro⟨u,s2⟩ ⟨rfl,h2⟩
 obtain⟨w,e2,l2,c2,b2,d2,j1,j2,j3⟩:=h2.tab
 obtain⟨w',q1,q2⟩:=j2.cut (n:=B.length) (k:=.i64) (by rw[strs_len,List.length_append];omega)
 have e3:(strs (B++L)).take B.length=strs B:=by simp[strs]
 rw[e3] at q2
 have hk2:=obj_lt j1
 have c2':Am.cnt s2=Am.cnt s:=h2.cnt.trans hF.cnt.symm
 have j1':=j1
 unfold ckc at j1'
 simp only[go_sem,reduceCtorEq,↓reduceIte,nA,nB,nC,nD,nE,iA,iB,iC,iD,iE,iF,hk2,j1',q1,q2.low,q2.one,c2']
 have hend:Ck s0 D kt k (setOb s2 k (ckc kt w' e2 l2 c2 b2)) B:=⟨by rw[cnt_set];exact h2.cnt,fun r hr=>by rw[obj_set' (fun h=>hr h.symm)];exact h2.oth r hr,hF.hk,hF.tb,h2.fr,h2.nx,w',e2,l2,c2,b2,d2,obj_set hk2,q2,j3⟩
 exact hF.back hend
end Go.Am
namespace Go.Am
open Go
theorem op_w (t:Str) (s:St):W (C F0 X0 44 [.s t] s) fun q=>∃ m,q=(.i .i64 m,s):=by
 obtain⟨m,h⟩:=Op_tot t s
 exact W.of h ⟨m,rfl⟩
theorem fix_av {a b c d e:AV}:True:=trivial
theorem Default_w (t:Str) (s:St):W (C F0 X0 147 [.s t] s) fun q=>∃ f:FixT,q=(f.av,s):=by
 rw[w_call (f:=147) rfl]
 simp only[go_sem,reduceCtorEq,↓reduceIte,nA,nB,nC,nD,nE,iA,iB,iC,iD,iE,iF]
 refine W.step (op_w t _) ?_
 rintro _ ⟨m,rfl⟩
 have hrel:=fun s=>rel_eq m s
 simp only[go_sem,reduceCtorEq,↓reduceIte,nA,nB,nC,nD,nE,iA,iB,iC,iD,iE,iF,hrel]
 repeat' (refine W.ifc (fun d=>?_) (fun d=>?_)<;>simp only[go_sem,reduceCtorEq,↓reduceIte,nA,nB,nC,nD,nE,iA,iB,iC,iD,iE,iF,d])
 all_goals exact⟨⟨_,_,_,_,_⟩,rfl⟩
theorem Find_w {v:AV} {fs:List FixT} (t:Str) (s:St) (hr:Rd s.arr (.st 5) v (fs.map FixT.av)) (hl:fs.length≤300000):W (C F0 X0 142 [v,.s t] s) fun q=>∃ f:FixT,q=(f.av,s):=by
 have hlow:=hr.low
 have hlen:=hr.len
 rw[List.length_map] at hlen
 rw[w_call (f:=142) rfl]
 simp only[go_sem,reduceCtorEq,↓reduceIte,nA,nB,nC,nD,nE,iA,iB,iC,iD,iE,iF,hlen,hlow]
 refine W.step (W.range (n:=fs.length) (Q:=fun q=>(∃ e,get e 1=some (.s t)∧get e 4=some (.ref (cnt s) 0)∧q=(.exit 0,e,ex s [.cells [.s [],.i .i64 0,.i .i64 0,.i .i64 0,.i .i64 0]]))∨∃ (f:FixT) (e:Env),get e 4=some (.ref (cnt s) 0)∧q=(.ret,e,ex s [.cells f.av.cells])) (L:=l142_0) rfl (fun i e t'=>e=[(1,.s t),(4,.ref (cnt s) 0),(7,v),(8,.i .i64 (fs.length:Int)),(9,.i .i64 (i:Int))]∧t'=ex s [.cells [.s [],.i .i64 0,.i .i64 0,.i .i64 0,.i .i64 0]]) ?_ ?_ 0 _ _ (Nat.zero_le _) ⟨rfl,rfl⟩) ?_
 ·rintro i e t' ⟨rfl,rfl⟩ hi
  obtain⟨p,h1,h2,-⟩:=hr.ld i fs[i].av (by rw[List.getElem?_map,List.getElem?_eq_getElem hi];rfl)
  generalize fs[i]=f at h2
  have h2':=fun l=>h2 (ex s l) rfl
  have h3:decide ((i:Int)<(fs.length:Int))=true:=by simp;omega
  have h5:=@wrap_one i (by omega)
  simp only[go_sem,reduceCtorEq,↓reduceIte,nA,nB,nC,nD,nE,iA,iB,iC,iD,iE,iF,h1,h2',h3,h5,hlow]
  refine W.ifc (fun h=>?_) (fun h=>?_)
  ·simp only[go_sem,reduceCtorEq,↓reduceIte,nA,nB,nC,nD,nE,iA,iB,iC,iD,iE,iF,h,h5]
   exact .inr ⟨f,[(4,.ref (cnt s) 0)],rfl,rfl⟩
  ·simp only[go_sem,reduceCtorEq,↓reduceIte,nA,nB,nC,nD,nE,iA,iB,iC,iD,iE,iF,h,h5,hlow]
 ·rintro e t' ⟨rfl,rfl⟩
  have h3:decide ((fs.length:Int)<(fs.length:Int))=false:=by simp
  simp only[go_sem,reduceCtorEq,↓reduceIte,nA,nB,nC,nD,nE,iA,iB,iC,iD,iE,iF,h3,hlow]
  exact .inl ⟨_,rfl,rfl,rfl⟩
 ·rintro q (⟨e,h1,h2,rfl⟩|⟨f,e,h4,rfl⟩)
  ·simp only[go_sem,reduceCtorEq,↓reduceIte,nA,nB,nC,nD,nE,iA,iB,iC,iD,iE,iF,h1,h2]
   refine W.step (Default_w t _) ?_
   rintro _ ⟨f,rfl⟩
   simp only[go_sem,reduceCtorEq,↓reduceIte,nA,nB,nC,nD,nE,iA,iB,iC,iD,iE,iF,h2]
   exact⟨f,rfl⟩
  ·rw[FixT.cells_eq]
   simp only[go_sem,reduceCtorEq,↓reduceIte,nA,nB,nC,nD,nE,iA,iB,iC,iD,iE,iF,h4]
   exact⟨f,rfl⟩
end Go.Am
namespace Go.Am
open Go
abbrev iav (i:Nat):AV:=.i .i64 (i:Nat)
def isSpan (x:AV):Prop:=∃ a b:Int,x=.agg [.i .i64 a,.i .i64 b]
def isI (x:AV):Prop:=∃ a:Int,x=.i .i64 a
def Gp (A0:Nat→Option (List AV)) (n0:Nat) (A:Nat→Option (List AV)) (N:Nat) (w dn:AV) (a n:Nat) (ws:List Nat) (ds:List AV):Prop :=
 ∃ dw dd cs,Gr A N .one w (ws.map iav) dw∧Gr A N (.st 2) dn ds dd∧A a=some cs∧cs.length=n*2∧(∀ c∈cs,isI c)∧n0≤a∧a<N∧(∀ i,dw=some i→n0≤i∧i≠a∧dd≠some i)∧(∀ i,dd=some i→n0≤i∧i≠a)∧Old n0 A A0∧n0≤N∧(∀ i∈ws,i<n)∧ds.length=ws.length+1∧∀ d∈ds,isSpan d
theorem span_ele {a b:Int}:Ele (.st 2) (.agg [.i .i64 a,.i .i64 b]):=ele_st rfl rfl
theorem int_ele {a:Int}:Ele .one (.i .i64 a):=ele_one rfl
theorem reduce_w {A0:Nat→Option (List AV)} {n0:Nat} {s:St} {r a n:Nat} {lv w dn:AV} {ws:List Nat} {ds:List AV} (ho:obj s r=some (.cells [lv,w,dn,.os a (.st 2) n])) (hG:Gp A0 n0 s.arr s.nxt w dn a n ws ds) (hne:ws≠[]) (hn:ws.length≤300000) (hn2:n≤300000) (hlv:∀ n,lv.low n=true) (hla:∀ n,lv.alow n=true) :
  W (C F0 X0 150 [.ref r 0] s) fun q=>∃ w' dn' ds' A' N',q=(.tup [],wa (setOb s r (.cells [lv,w',dn',.os a (.st 2) n])) A' N')∧Gp A0 n0 A' N' w' dn' a n ws.dropLast ds'∧s.nxt≤N'∧∃ j m,dn'=.os j (.st 2) m∧s.nxt≤j:=by
 have hk:=obj_lt ho
 obtain⟨dw,dd,cs,h1,h2,h3,h4,h5,h6,h7,h8,h9,h10,h11,h12,h13,h14⟩:=hG
 obtain⟨wi,i,rfl⟩:∃ wi i,ws=wi++[i]:=⟨ws.dropLast,ws.getLast hne,(List.dropLast_concat_getLast hne).symm⟩
 obtain⟨di,x,y,rfl,hdl⟩:∃ di x y,ds=di++[x,y]∧di.length=wi.length:=by
  have hl:2≤ds.length:=by rw[h13];simp
  refine⟨ds.take (ds.length - 2),ds[ds.length - 2],ds[ds.length - 1],?_,by simp at h13 ⊢;omega⟩
  have e1:ds.drop (ds.length - 2)=[ds[ds.length - 2],ds[ds.length - 1]]:=by
   apply List.ext_getElem
   ·simp;omega
   ·intro j hj1 hj2
    simp at hj2
    rw[List.getElem_drop]
    match j,hj2 with
    | 0,_=>rfl
    | 1,_=>simp only[List.getElem_cons_succ,List.getElem_cons_zero];congr 1;omega
  rw[←e1,List.take_append_drop]
 obtain⟨xa,xb,rfl⟩:=h14 x (by simp)
 obtain⟨ya,yb,rfl⟩:=h14 y (by simp)
 have r1:=h1.rd (by decide)
 have r2:=h2.rd (by decide)
 have lw:=h1.low
 have ld:=h2.low
 have ow:=h1.one
 have od:=h2.one
 have el1:=h1.len
 have el2:=h2.len
 rw[List.length_map,List.length_append,List.length_singleton] at el1
 rw[List.length_append,show [AV.agg [.i .i64 xa,.i .i64 xb],.agg [.i .i64 ya,.i .i64 yb]].length=2 from rfl] at el2
 simp only[List.length_append,List.length_singleton] at hn
 have hw1:IntKind.i64.wrap (((wi.length+1:Nat):Int) - 1)=(wi.length:Int):=by rw[←wrap_nat (n:=wi.length) (by omega)];congr 1;omega
 have hw2:IntKind.i64.wrap (((di.length+2:Nat):Int) - 2)=(di.length:Int):=by rw[←wrap_nat (n:=di.length) (by omega)];congr 1;omega
 have hw3:IntKind.i64.wrap (((di.length+2:Nat):Int) - 1)=((di.length+1:Nat):Int):=by rw[←wrap_nat (n:=di.length+1) (by omega)];congr 1;omega
 obtain⟨p1,q1,q2,-⟩:=r1.ld wi.length (iav i) (by simp)
 obtain⟨p2,q3,q4,q5⟩:=r2.ld di.length (.agg [.i .i64 xa,.i .i64 xb]) (by simp)
 obtain⟨p3,q6,q7,q8⟩:=r2.ld (di.length+1) (.agg [.i .i64 ya,.i .i64 yb]) (by simp)
 obtain⟨p4,q9,q10⟩:=q5 0 .one (by show 0+1≤2;omega)
 obtain⟨p5,q11,q12⟩:=q8 1 .one (by show 1+1≤2;omega)
 obtain⟨w',c1,c2⟩:=h1.cut (n:=wi.length) (by simp) (k:=.i64)
 obtain⟨dn1,c3,c4⟩:=h2.cut (n:=di.length) (by simp) (k:=.i64)
 rw[List.take_left' (by simp)] at c4
 rw[w_call (f:=150) rfl]
 have hi:i<n:=h12 i (by simp)
 obtain⟨v',A',N',d',k1,k2,k3,k4,k5,k6⟩:=c4.push' (y:=.agg [.i .i64 xa,.i .i64 yb]) [.i .i64 xa,.i .i64 yb] rfl span_ele (by unfold most;omega)
 have k1':∀ o l,agrow (newAr (ex (setOb s r o) l) [.i .i64 xa,.i .i64 yb]) (.st 2) 1 [.i .i64 xa,.i .i64 yb] dn1=some (v',wa (ex (setOb s r o) l) A' N'):=fun o l=>k1 (ex (setOb s r o) l)
 have lv':=k2.low
 have ov':=k2.one
 have lw':=c2.low
 have ow':=c2.one
 have q2':=q2 s rfl
 have q10':=fun o=>q10 (setOb s r o) rfl
 have q12':=fun o=>q12 (setOb s r o) rfl
 have hcl:=fun l=>(rfl:AV.cells (.i .i64 l)=[.i .i64 l])
 have hA':A' a=some cs:=(k4 a h7 (fun h=>(h9 a h).2 rfl)).trans h3
 have hst:∀ u bs,astore bs 2 (wa u A' N') (.agg [.i .i64 xa,.i .i64 yb]) (.aref a (i*2))=some (.un,wa u (upd A' a (some (splice cs (i*2) [.i .i64 xa,.i .i64 yb]))) N'):=fun u bs=>by
  show (match A' a with|some cs=>_|none=>none)=_
  rw[hA']
  dsimp only
  rw[if_pos ⟨rfl,by omega,by omega,rfl⟩]
  rfl
 have hia:∀ k,aiad (.st 2) (.os a (.st 2) n) (.i k (i:Int))=some (.aref a (i*2)):=fun k=>by
  unfold aiad
  dsimp only
  rw[if_pos ⟨by omega,by omega,rfl⟩,Int.toNat_natCast]
  rfl
 simp only[go_sem,reduceCtorEq,↓reduceIte,nA,nB,nC,nD,nE,iA,iB,iC,iD,iE,iF,hk,ho,el1,el2,hw1,hw2,hw3,q1,q2',c1,c3,q3,q6,q9,q10',q11,q12',lw,ld,lw',ow',hlv,k1',lv',ov',hst,hia,hcl]
 obtain⟨j,m,hv',hj⟩:∃ j m,v'=.os j (.st 2) m∧s.nxt≤j:=by
  obtain⟨-,⟨w1,-⟩|⟨j,cs',w1,-,-,-,w2⟩⟩:=id k2
  ·exact (k6 w1).elim
  ·exact⟨j,_,w1,k5 j w2⟩
 have hal:v'.alow s.nxt=false:=by rw[hv',alow_os];exact decide_eq_false (by omega)
 have hbk:∀ B M,back s (.tup []) (wa (setOb s r (.cells [lv,w',v',.os a (.st 2) n])) B M)=wa (setOb s r (.cells [lv,w',v',.os a (.st 2) n])) B M:=fun B M =>
  back_box (r:=r) (o:=.cells [lv,w',v',.os a (.st 2) n]) (show obj (wa (setOb s r (.cells [lv,w',v',.os a (.st 2) n])) B M) r=_ from obj_set hk) (by show AV.alowL s.nxt _=false;simp only[alowL_cons,hal,Bool.false_and,Bool.and_false]) (fun o' hh=>by rw[ho] at hh;injection hh with hh;subst hh;show AV.alowL s.nxt _=true;simp only[alowL_cons,alowL_nil,hla,alow_os,h1.alow (fun b hb=>h1.lt hb),h2.alow (fun b hb=>h2.lt hb),Bool.true_and,Bool.and_true];exact decide_eq_true h7)
 rw[hbk]
 refine⟨w',v',di++[.agg [.i .i64 xa,.i .i64 yb]],_,N',rfl,⟨dw,d',_,?_,?_,upd_same,?_,?_,h6,by omega,fun b hb=>⟨(h8 b hb).1,(h8 b hb).2.1,fun hh=>by have:=h1.lt hb;have:=k5 b hh;omega⟩,fun b hb=>⟨by have:=k5 b hb;omega,by have:=k5 b hb;omega⟩,?_,by omega,fun b hb=>h12 b (by simp at hb ⊢;exact .inl hb),?_,?_⟩,k3,j,m,hv',hj⟩
 ·have e1:((wi++[i]).map iav).take wi.length=(wi++[i]).dropLast.map iav:=by simp
  rw[←e1]
  exact c2.mono fun b hb=>⟨by rw[upd_other (h8 b hb).2.1];exact k4 b (h1.lt hb) (h8 b hb).2.2,by have:=h1.lt hb;omega⟩
 ·exact k2.mono fun b hb=>⟨upd_other (by have:=k5 b hb;omega),k2.lt hb⟩
 ·simp;omega
 ·intro c hc
  rcases List.mem_append.1 hc with hc|hc
  ·rcases List.mem_append.1 hc with hc|hc
   ·exact h5 c (List.mem_of_mem_take hc)
   ·simp at hc
    rcases hc with rfl|rfl
    ·exact⟨_,rfl⟩
    ·exact⟨_,rfl⟩
  ·exact h5 c (List.mem_of_mem_drop hc)
 ·exact old_upd (fun b hb=>(k4 b (by omega) fun hh=>by have:=(h9 b hh).1;omega).trans (h10 b hb)) h6
 ·simp;omega
 ·intro d hd
  rcases List.mem_append.1 hd with hd|hd
  ·exact h14 d (List.mem_append_left _ hd)
  ·rw[List.mem_singleton.1 hd];exact⟨_,_,rfl⟩
end Go.Am
namespace Go.Am
open Go
theorem Gp.rdw {A0 A n0 N w dn a n ws ds} (h:Gp A0 n0 A N w dn a n ws ds):Rd A .one w (ws.map iav):=by obtain⟨dw,dd,cs,h1,-⟩:=h;exact h1.rd (by decide)
theorem Gp.low {A0 A n0 N w dn a n ws ds} (h:Gp A0 n0 A N w dn a n ws ds):(∀ k,w.low k=true)∧(∀ k,dn.low k=true)∧w.cells=[w]∧dn.cells=[dn]∧(∀ i∈ws,i<n):=by obtain⟨dw,dd,cs,h1,h2,h3,h4,h5,h6,h7,h8,h9,h10,h11,h12,-⟩:=h;exact⟨h1.low,h2.low,h1.one,h2.one,h12⟩
theorem takes_w {A0:Nat→Option (List AV)} {n0:Nat} {s:St} {r a k:Nat} {w0 dn0:AV} {ws0:List Nat} {ds0:List AV} {fs:List FixT} (ho:obj s r=some (.cells [lst (.st 5) (fs.map FixT.av),w0,dn0,.os a (.st 2) fs.length])) (hG0:Gp A0 n0 s.arr s.nxt w0 dn0 a fs.length ws0 ds0) (hk0:k<fs.length) (hn:ws0.length≤200000) (hn2:fs.length≤200000) :
  W (C F0 X0 149 [.ref r 0,iav k] s) fun q=>∃ b w' dn' ws' ds' A' N',q=(.b b,wa (setOb s r (.cells [lst (.st 5) (fs.map FixT.av),w',dn',.os a (.st 2) fs.length])) A' N')∧Gp A0 n0 A' N' w' dn' a fs.length ws' ds'∧s.nxt≤N'∧ws'.length≤ws0.length+1:=by
 have hk:=obj_lt ho
 have hsid:=set_id ho
 have hbk0:∀ w dn B M b,(∃ j m,dn=.os j (.st 2) m∧s.nxt≤j)→back s (.b b) (wa (setOb s r (.cells [lst (.st 5) (fs.map FixT.av),w,dn,.os a (.st 2) fs.length])) B M)=wa (setOb s r (.cells [lst (.st 5) (fs.map FixT.av),w,dn,.os a (.st 2) fs.length])) B M:=by
  rintro w dn B M b ⟨j,m,rfl,hj⟩
  obtain⟨dw,dd,cs,h1,h2,h3,h4,h5,h6,h7,-⟩:=hG0
  have hal:AV.alow s.nxt (.os j (.st 2) m)=false:=by rw[alow_os];exact decide_eq_false (by omega)
  exact back_box (r:=r) (o:=.cells [lst (.st 5) (fs.map FixT.av),w,.os j (.st 2) m,.os a (.st 2) fs.length]) (show obj (wa (setOb s r (.cells [lst (.st 5) (fs.map FixT.av),w,.os j (.st 2) m,.os a (.st 2) fs.length])) B M) r=_ from obj_set hk) (by show AV.alowL s.nxt _=false;simp only[alowL_cons,hal,Bool.false_and,Bool.and_false]) (fun o' hh=>by rw[ho] at hh;injection hh with hh;subst hh;show AV.alowL s.nxt _=true;simp only[alowL_cons,alowL_nil,lst_alow,alow_os,h1.alow (fun b hb=>h1.lt hb),h2.alow (fun b hb=>h2.lt hb),Bool.true_and,Bool.and_true];exact decide_eq_true h7)
 have hfi:∀ (j:Nat) (hj:j<fs.length) k,aiad (.st 5) (lst (.st 5) (fs.map FixT.av)) (.i k (j:Int))=some (.ep fs[j].av.cells 0):=fun j hj k=>lst_iad rfl (by rw[List.getElem?_map,List.getElem?_eq_getElem hj];rfl)
 have hf0:=hfi k hk0
 generalize fs[k]=f at hf0
 rw[w_call (f:=149) rfl]
 simp only[go_sem,reduceCtorEq,↓reduceIte,nA,nB,nC,nD,nE,iA,iB,iC,iD,iE,iF,hk,ho,hf0]
 refine W.step (W.loop (L:=l149_0) (Q:=fun q=>∃ w dn ws ds A N x e ob,q=(x,e,wa (ex (setOb s r (.cells [lst (.st 5) (fs.map FixT.av),w,dn,.os a (.st 2) fs.length])) (.cells f.av.cells::ob)) A N)∧Gp A0 n0 A N w dn a fs.length ws ds∧s.nxt≤N∧((A=s.arr∧N=s.nxt∧w=w0∧dn=dn0)∨∃ j m,dn=.os j (.st 2) m∧s.nxt≤j)∧ws.length≤ws0.length∧((x=.exit 0∧get e 0=some (.ref r 0)∧get e 1=some (iav k))∨(x=.ret∧get e 4=some (.b false)))) rfl (fun i e t=>∃ w dn ws ds A N ex',i=ws.length∧e=[(0,.ref r 0),(1,iav k),(5,.ref (cnt s) 0)]++ex'∧t=wa (ex (setOb s r (.cells [lst (.st 5) (fs.map FixT.av),w,dn,.os a (.st 2) fs.length])) [.cells f.av.cells]) A N∧Gp A0 n0 A N w dn a fs.length ws ds∧s.nxt≤N∧((A=s.arr∧N=s.nxt∧w=w0∧dn=dn0)∨∃ j m,dn=.os j (.st 2) m∧s.nxt≤j)∧ws.length≤ws0.length) ?_ _ _ _ ⟨w0,dn0,ws0,ds0,s.arr,s.nxt,[],rfl,rfl,by rw[hsid,FixT.cells_eq];rfl,hG0,Nat.le_refl _,.inl ⟨rfl,rfl,rfl,rfl⟩,Nat.le_refl _⟩) ?_
 ·rintro i e t ⟨w,dn,ws,ds,A,N,ex',rfl,rfl,rfl,hG,hN,hor,hws⟩
  obtain⟨lw,ld,ow,od,hlt⟩:=hG.low
  have hrd:=hG.rdw
  have hlen:=hrd.len
  rw[List.length_map] at hlen
  simp only[go_sem,reduceCtorEq,↓reduceIte,nA,nB,nC,nD,nE,iA,iB,iC,iD,iE,iF,hk,hlen]
  refine W.ifc (fun d=>?_) (fun d=>?_)
  ·have hne:ws≠[]:=by rintro rfl;simp at d
   obtain⟨wi,j,rfl⟩:∃ wi j,ws=wi++[j]:=⟨ws.dropLast,ws.getLast hne,(List.dropLast_concat_getLast hne).symm⟩
   simp only[List.length_append,List.length_singleton] at hlen hws
   have hw1:IntKind.i64.wrap (((wi.length+1:Nat):Int) - 1)=(wi.length:Int):=by rw[←wrap_nat (n:=wi.length) (by omega)];congr 1;omega
   have hw1':IntKind.i64.wrap ((wi.length:Int)+1 - 1)=(wi.length:Int):=hw1
   obtain⟨p1,q1,q2,-⟩:=hrd.ld wi.length (iav j) (by simp)
   have hjn:j<fs.length:=hlt j (by simp)
   have hfj:=hfi j hjn
   generalize fs[j]=g at hfj
   have q2':=fun u=>q2 (wa u A N) rfl
   simp only[go_sem,reduceCtorEq,↓reduceIte,nA,nB,nC,nD,nE,iA,iB,iC,iD,iE,iF,d,hk,hlen,hw1,hw1',q1,q2',hfj,List.length_append,List.length_singleton]
   repeat' (first
    | (refine W.ifc (fun d=>?_) (fun d=>?_)<;>simp only[go_sem,reduceCtorEq,↓reduceIte,nA,nB,nC,nD,nE,iA,iB,iC,iD,iE,iF,d,hk])
    | (refine W.step (reduce_w (at_wx hk) hG (by simp) (by simp;omega) (by omega) (fun _=>lst_low) (fun _=>lst_alow)) ?_;rintro _ ⟨w2,dn2,ds2,A2,N2,rfl,g1,g2,j2,m2,g3,g4⟩;simp only[go_sem,reduceCtorEq,↓reduceIte,nA,nB,nC,nD,nE,iA,iB,iC,iD,iE,iF,hk]))
   all_goals first
    | exact⟨wi.length,by simp,w2,dn2,wi,ds2,A2,N2,[],rfl,rfl,rfl,by simpa using g1,by have:N≤N2:=g2;omega,.inr ⟨j2,m2,g3,by have:N≤j2:=g4;omega⟩,by omega⟩
    | exact⟨w,dn,_,ds,A,N,.exit 0,_,_,rfl,hG,hN,hor,by simp;omega,.inl ⟨rfl,rfl,rfl⟩⟩
    | exact⟨w,dn,_,ds,A,N,.ret,_,_,rfl,hG,hN,hor,by simp;omega,.inr ⟨rfl,rfl⟩⟩
    | skip
  ·simp only[go_sem,reduceCtorEq,↓reduceIte,nA,nB,nC,nD,nE,iA,iB,iC,iD,iE,iF,d,hk]
   exact⟨w,dn,_,ds,A,N,.exit 0,_,_,rfl,hG,hN,hor,hws,.inl ⟨rfl,rfl,rfl⟩⟩
 ·rintro q ⟨w,dn,ws,ds,A,N,x,e,ob,rfl,hG,hN,hor,hws,hx⟩
  obtain⟨lw,ld,ow,od,hlt⟩:=hG.low
  rcases hx with ⟨rfl,e0,e1⟩|⟨rfl,e4⟩
  ·obtain⟨dw,dd,cs,h1,h2,h3,h4,h5,h6,h7,h8,h9,h10,h11,h12,h13,h14⟩:=id hG
   obtain⟨w',A2,N2,d2,k1,k2,k3,k4,k5,k6⟩:=h1.push' (y:=iav k) [iav k] rfl int_ele (by simp;unfold most;omega)
   have h2':Gr A2 N2 (.st 2) dn ds dd:=h2.mono fun b hb=>⟨k4 b (h2.lt hb) fun hh=>(h8 b hh).2.2 hb,Nat.lt_of_lt_of_le (h2.lt hb) k3⟩
   have hwk:IntKind.i64.wrap ((k:Int)+1)=((k+1:Nat):Int):=wrap_one (by omega)
   obtain⟨v',A3,N3,d3,m1,m2,m3,m4,m5,m6⟩:=h2'.push' (y:=.agg [.i .i64 ((k+1:Nat):Int),.i .i64 ((k+1:Nat):Int)]) [.i .i64 ((k+1:Nat):Int),.i .i64 ((k+1:Nat):Int)] rfl span_ele (by unfold most;omega)
   have lw':=k2.low
   have ow':=k2.one
   have lv':=m2.low
   have ov':=m2.one
   rw[FixT.cells_eq]
   simp only[go_sem,reduceCtorEq,↓reduceIte,nA,nB,nC,nD,nE,iA,iB,iC,iD,iE,iF,hk,e0,e1,k1,m1,hwk,lw',ow',lv',ov']
   obtain⟨j,m,hv',hj⟩:∃ j m,v'=.os j (.st 2) m∧N2≤j:=by
    obtain⟨-,⟨w1,-⟩|⟨j,cs',w1,-,-,-,w2⟩⟩:=id m2
    ·exact (m6 w1).elim
    ·exact⟨j,_,w1,m5 j w2⟩
   have hG2:Gp A0 n0 A3 N3 w' v' a fs.length (ws++[k]) (ds++[.agg [.i .i64 ((k+1:Nat):Int),.i .i64 ((k+1:Nat):Int)]]):=by
    refine⟨d2,d3,cs,?_,m2,?_,h4,h5,h6,by omega,fun b hb=>⟨by have:=k5 b hb;omega,by have:=k5 b hb;omega,fun hh=>by have:=m5 b hh;have:=k2.lt hb;omega⟩,fun b hb=>⟨by have:=m5 b hb;omega,by have:=m5 b hb;omega⟩,?_,by omega,fun b hb=>(List.mem_append.1 hb).elim (h12 b) fun hb=>by rw[List.mem_singleton.1 hb];exact hk0,by simp;omega,fun d hd=>(List.mem_append.1 hd).elim (h14 d) fun hd=>by rw[List.mem_singleton.1 hd];exact⟨_,_,rfl⟩⟩
    ·rw[List.map_append]
     exact k2.mono fun b hb=>⟨m4 b (k2.lt hb) fun hh=>by have:=h2.lt hh;have:=k5 b hb;omega,by have:=k2.lt hb;omega⟩
    ·rw[m4 a (by omega) fun hh=>(h9 a hh).2 rfl,k4 a h7 fun hh=>(h8 a hh).2.1 rfl];exact h3
    ·exact fun b hb=>(m4 b (by omega) fun hh=>by have:=(h9 b hh).1;omega).trans ((k4 b (by omega) fun hh=>by have:=(h8 b hh).1;omega).trans (h10 b hb))
   refine⟨true,w',v',ws++[k],_,A3,N3,?_,hG2,by omega,by simp;omega⟩
   have hbk:=hbk0 w' v' A3 N3 true (by rw[hv'];exact⟨j,m,rfl,by omega⟩)
   rw[hbk]
  ·rw[FixT.cells_eq]
   simp only[go_sem,reduceCtorEq,↓reduceIte,nA,nB,nC,nD,nE,iA,iB,iC,iD,iE,iF,hk,e4]
   refine⟨false,w,dn,ws,ds,A,N,?_,hG,hN,by omega⟩
   rcases hor with ⟨rfl,rfl,rfl,rfl⟩|hor
   ·rcases back_or s (.b false) (wa (setOb s r (.cells [lst (.st 5) (fs.map FixT.av),w,dn,.os a (.st 2) fs.length])) s.arr s.nxt) with h|h<;>rw[h]
    rfl
   ·rw[hbk0 w dn A N false hor]
end Go.Am
namespace Go.Am
open Go
theorem fixright_w (f:FixT) (s:St):W (C F0 X0 148 [f.av] s) fun q=>∃ b,q=(.b b,s):=by
 rw[w_call (f:=148) rfl]
 simp only[go_sem,reduceCtorEq,↓reduceIte,nA,nB,nC,nD,nE,iA,iB,iC,iD,iE,iF]
 repeat' (refine W.ifc (fun d=>?_) (fun d=>?_)<;>simp only[go_sem,reduceCtorEq,↓reduceIte,nA,nB,nC,nD,nE,iA,iB,iC,iD,iE,iF,d])
 all_goals exact⟨_,rfl⟩
theorem spans_chunk:∀ (n:Nat) (cs:List AV),cs.length=n*2→(∀ c∈cs,isI c)→∃ zs,chunk (.st 2) n cs=some zs∧zs.length=n∧∀ z∈zs,isSpan z
 | 0,cs,_,_=>⟨[],rfl,rfl,fun z h=>nomatch h⟩
 | n+1,cs,hl,hi=>by
  match cs,hl,hi with
  | [],hl,hi=>simp at hl
  | [x],hl,hi=>simp at hl;omega
  | x::y::cs,hl,hi =>
   obtain⟨a,rfl⟩:=hi x (by simp)
   obtain⟨b,rfl⟩:=hi y (by simp)
   obtain⟨zs,h1,h2,h3⟩:=spans_chunk n cs (by simp at hl;omega) (fun c hc=>hi c (by simp[hc]))
   refine⟨.agg [.i .i64 a,.i .i64 b]::zs,?_,by simp[h2],fun z hz=>(List.mem_cons.1 hz).elim (fun h=>⟨a,b,h⟩) (h3 z)⟩
   show (if AV.fin (.agg [.i .i64 a,.i .i64 b])=true then (chunk (.st 2) n cs).map _ else none)=_
   rw[h1]
   rfl
theorem reps_len {z:List AV}:∀ {n:Nat},(reps z n).length=n*z.length
 | 0=>by simp[reps]
 | n+1=>by rw[reps,List.length_append,reps_len,Nat.add_mul];omega
theorem reps_isI:∀ {n:Nat},∀ c∈reps [.i .i64 0,.i .i64 0] n,isI c
 | 0,c,h=>nomatch h
 | n+1,c,h=>(List.mem_append.1 h).elim (fun h=>by simp at h;exact⟨0,h⟩) (reps_isI c)
theorem reps_low0 {n:Nat}:AV.lowL 0 (reps [.i .i64 0,.i .i64 0] n)=true:=by
 induction n with
 | zero=>rfl
 | succ n ih=>exact ih
theorem Resolve_w (fs:List FixT) (s:St):W (C F0 X0 143 [lst (.st 5) (fs.map FixT.av)] s) fun q=>∃ v k e,q=(.tup [v,.i .i64 k,.i .i64 e],s)∧((e=0∧∃ zs,v=.sl (.st 2) zs∧zs.length=fs.length∧∀ z∈zs,isSpan z)∨(e≠0∧v=.nsl∧0≤k∧(k<fs.length∨1024<fs.length∧k=0))):=by
 have hfi:∀ (j:Nat) (hj:j<fs.length) k,aiad (.st 5) (lst (.st 5) (fs.map FixT.av)) (.i k (j:Int))=some (.ep fs[j].av.cells 0):=fun j hj k=>lst_iad rfl (by rw[List.getElem?_map,List.getElem?_eq_getElem hj];rfl)
 rw[w_call (f:=143) rfl]
 simp only[go_sem,reduceCtorEq,↓reduceIte,nA,nB,nC,nD,nE,iA,iB,iC,iD,iE,iF,List.length_map]
 refine W.ifc (fun d=>?_) (fun d=>?_)
 ·simp only[go_sem,reduceCtorEq,↓reduceIte,nA,nB,nC,nD,nE,iA,iB,iC,iD,iE,iF,d]
  exact⟨.nsl,0,2,rfl,.inr ⟨by decide,rfl,by omega,.inr ⟨by simp at d;omega,rfl⟩⟩⟩
 ·have hlen:fs.length≤1024:=by simp at d;omega
  simp only[go_sem,reduceCtorEq,↓reduceIte,nA,nB,nC,nD,nE,iA,iB,iC,iD,iE,iF,d,List.length_map]
  refine W.step (W.range (n:=fs.length) (Q:=fun q=>(q=(.exit 0,[(0,lst (.st 5) (fs.map FixT.av)),(12,lst (.st 5) (fs.map FixT.av)),(13,.i .i64 (fs.length:Int)),(14,.i .i64 (fs.length:Int)),(15,.b false)],s))∨∃ (i:Nat) (e:Env) (ob:List Ob),i<fs.length∧get e 2=some .nsl∧get e 3=some (.i .i64 (i:Int))∧get e 4=some (.i .i64 1)∧q=(.ret,e,ex s ob)) (L:=l143_0) rfl (fun i e t'=>e=[(0,lst (.st 5) (fs.map FixT.av)),(12,lst (.st 5) (fs.map FixT.av)),(13,.i .i64 (fs.length:Int)),(14,.i .i64 (i:Int))]∧t'=s) ?_ ?_ 0 _ _ (Nat.zero_le _) ⟨rfl,rfl⟩) ?_
  ·rintro i e t' ⟨rfl,rfl⟩ hi
   have h1:=hfi i hi
   generalize fs[i]=f at h1
   have h3:decide ((i:Int)<(fs.length:Int))=true:=by simp;omega
   have h5:=@wrap_one i (by omega)
   simp only[go_sem,reduceCtorEq,↓reduceIte,nA,nB,nC,nD,nE,iA,iB,iC,iD,iE,iF,h1,h3,h5]
   refine W.step (fixright_w f _) ?_
   rintro _ ⟨b,rfl⟩
   cases b with
   | true =>
    simp only[go_sem,reduceCtorEq,↓reduceIte,nA,nB,nC,nD,nE,iA,iB,iC,iD,iE,iF,h5]
   | false =>
    simp only[go_sem,reduceCtorEq,↓reduceIte,nA,nB,nC,nD,nE,iA,iB,iC,iD,iE,iF,h5]
    exact .inr ⟨i,[(2,.nsl),(3,.i .i64 (i:Int)),(4,.i .i64 1)],[],hi,rfl,rfl,rfl,by rw[ex_nil]⟩
  ·rintro e t' ⟨rfl,rfl⟩
   have h3:decide ((fs.length:Int)<(fs.length:Int))=false:=by simp
   simp only[go_sem,reduceCtorEq,↓reduceIte,nA,nB,nC,nD,nE,iA,iB,iC,iD,iE,iF,h3]
   exact .inl trivial
  ·rintro q (rfl|⟨i,e,ob,hi,h2,h3,h4,rfl⟩)
   ·have hmsl:∀ X:St,amsl X (.st 2) [.i .i64 0,.i .i64 0] (.i .i64 (fs.length:Int)) (.i .i64 (fs.length:Int))=some (.os X.nxt (.st 2) fs.length,newAr X (reps [.i .i64 0,.i .i64 0] fs.length)):=fun X=>by
     unfold amsl
     dsimp only
     rw[if_pos ⟨by omega,by omega,by unfold most;omega⟩,Int.toNat_natCast]
     exact aslot_low reps_low0
    simp only[go_sem,reduceCtorEq,↓reduceIte,nA,nB,nC,nD,nE,iA,iB,iC,iD,iE,iF,hmsl,List.length_map]
    have hG0:Gp s.arr s.nxt (upd (upd s.arr s.nxt (some [.i .i64 0,.i .i64 0])) (s.nxt+1) (some (reps [.i .i64 0,.i .i64 0] fs.length))) (s.nxt+2) .nsl (.os s.nxt (.st 2) 1) (s.nxt+1) fs.length [] [.agg [.i .i64 0,.i .i64 0]]:=by
     refine⟨none,some s.nxt,_,Gr.nil,⟨fun x hx=>by rw[List.mem_singleton.1 hx];exact span_ele,.inr ⟨s.nxt,[.i .i64 0,.i .i64 0],rfl,by rw[upd_other (by omega),upd_same],rfl,by omega,rfl⟩⟩,upd_same,by rw[reps_len];rfl,reps_isI,by omega,by omega,(fun i h=>nomatch h),fun i h=>by injection h with h;omega,old_upd (old_upd Old.refl (by omega)) (by omega),by omega,(fun i h=>nomatch h),rfl,fun d hd=>by rw[List.mem_singleton.1 hd];exact⟨_,_,rfl⟩⟩
    refine W.step (W.range (n:=fs.length) (Q:=fun q=>(∃ w dn ws ds A N,q=(.exit 2,[(7,.ref (cnt s) 0),(33,.i .i64 (fs.length:Int)),(34,.i .i64 (fs.length:Int)),(35,.b false)],wa (ex s [.cells [lst (.st 5) (fs.map FixT.av),w,dn,.os (s.nxt+1) (.st 2) fs.length]]) A N)∧Gp s.arr s.nxt A N w dn (s.nxt+1) fs.length ws ds∧ws.length≤fs.length)∨∃ (i:Nat) (A:Nat→Option (List AV)) (N:Nat) (ob:List Ob),i<fs.length∧q=(.ret,[(2,.nsl),(3,.i .i64 (i:Int)),(4,.i .i64 50)],wa (ex s ob) A N)∧Old s.nxt A s.arr) (L:=l143_1) rfl (fun i e t'=>∃ w dn ws ds A N,e=[(7,.ref (cnt s) 0),(33,.i .i64 (fs.length:Int)),(34,.i .i64 (i:Int))]∧t'=wa (ex s [.cells [lst (.st 5) (fs.map FixT.av),w,dn,.os (s.nxt+1) (.st 2) fs.length]]) A N∧Gp s.arr s.nxt A N w dn (s.nxt+1) fs.length ws ds∧ws.length≤i) ?_ ?_ 0 _ _ (Nat.zero_le _) ⟨_,_,_,_,_,_,rfl,rfl,hG0,Nat.zero_le _⟩) ?_
    ·rintro i e t' ⟨w,dn,ws,ds,A,N,rfl,rfl,hG,hws⟩ hi
     have h3:decide ((i:Int)<(fs.length:Int))=true:=by simp;omega
     have h5:=@wrap_one i (by omega)
     simp only[go_sem,reduceCtorEq,↓reduceIte,nA,nB,nC,nD,nE,iA,iB,iC,iD,iE,iF,h3]
     refine W.step (takes_w (r:=cnt s) (k:=i) (fs:=fs) (by simp only[go_sem]) hG hi (by omega) (by omega)) ?_
     rintro _ ⟨b,w',dn',ws',ds',A',N',rfl,hG',hN',hws'⟩
     obtain⟨lw,ld,ow,od,hlt⟩:=hG'.low
     cases b with
     | true =>
      simp only[go_sem,reduceCtorEq,↓reduceIte,nA,nB,nC,nD,nE,iA,iB,iC,iD,iE,iF,h5]
      exact⟨w',dn',ws',ds',A',N',rfl,hG',by omega⟩
     | false =>
      simp only[go_sem,reduceCtorEq,↓reduceIte,nA,nB,nC,nD,nE,iA,iB,iC,iD,iE,iF,h5]
      refine .inr ⟨i,A',N',_,hi,rfl,?_⟩
      obtain⟨dw,dd,cs,g1,g2,g3,g4,g5,g6,g7,g8,g9,g10,-⟩:=hG'
      exact g10
    ·rintro e t' ⟨w,dn,ws,ds,A,N,rfl,rfl,hG,hws⟩
     have h3:decide ((fs.length:Int)<(fs.length:Int))=false:=by simp
     simp only[go_sem,reduceCtorEq,↓reduceIte,nA,nB,nC,nD,nE,iA,iB,iC,iD,iE,iF,h3]
     exact .inl ⟨w,dn,ws,ds,A,N,rfl,hG,hws⟩
    ·rintro q (⟨w,dn,ws,ds,A,N,rfl,hG,hws⟩|⟨i,A,N,ob,hi,rfl,hold⟩)
     ·simp only[go_sem,reduceCtorEq,↓reduceIte,nA,nB,nC,nD,nE,iA,iB,iC,iD,iE,iF]
      refine W.step (W.loop (L:=l143_2) (Q:=fun q=>∃ w dn ws ds A N e,q=(.exit 4,e,wa (ex s [.cells [lst (.st 5) (fs.map FixT.av),w,dn,.os (s.nxt+1) (.st 2) fs.length]]) A N)∧get e 7=some (.ref (cnt s) 0)∧Gp s.arr s.nxt A N w dn (s.nxt+1) fs.length ws ds) rfl (fun i e t=>∃ w dn ws ds A N ex',i=ws.length∧e=(7,.ref (cnt s) 0)::ex'∧t=wa (ex s [.cells [lst (.st 5) (fs.map FixT.av),w,dn,.os (s.nxt+1) (.st 2) fs.length]]) A N∧Gp s.arr s.nxt A N w dn (s.nxt+1) fs.length ws ds∧ws.length≤fs.length) ?_ _ _ _ ⟨w,dn,ws,ds,A,N,_,rfl,rfl,rfl,hG,hws⟩) ?_
      ·rintro i e t ⟨w,dn,ws,ds,A,N,ex',rfl,rfl,rfl,hG,hws⟩
       have hrd:=hG.rdw
       have hl2:=hrd.len
       rw[List.length_map] at hl2
       simp only[go_sem,reduceCtorEq,↓reduceIte,nA,nB,nC,nD,nE,iA,iB,iC,iD,iE,iF,hl2]
       refine W.ifc (fun d=>?_) (fun d=>?_)
       ·have hne:ws≠[]:=by rintro rfl;simp at d
        simp only[go_sem,reduceCtorEq,↓reduceIte,nA,nB,nC,nD,nE,iA,iB,iC,iD,iE,iF,d]
        refine W.step (reduce_w (r:=cnt s) (lv:=lst (.st 5) (fs.map FixT.av)) (by simp only[go_sem]) hG hne (by omega) (by omega) (fun _=>lst_low) (fun _=>lst_alow)) ?_
        rintro _ ⟨w2,dn2,ds2,A2,N2,rfl,g1,g2,j2,m2,g3,g4⟩
        simp only[go_sem,reduceCtorEq,↓reduceIte,nA,nB,nC,nD,nE,iA,iB,iC,iD,iE,iF]
        exact⟨ws.length - 1,by have:=List.length_pos_iff.2 hne;omega,w2,dn2,ws.dropLast,ds2,A2,N2,[],by simp,rfl,rfl,g1,by simp;omega⟩
       ·simp only[go_sem,reduceCtorEq,↓reduceIte,nA,nB,nC,nD,nE,iA,iB,iC,iD,iE,iF,d]
        exact⟨w,dn,ws,ds,A,N,_,rfl,rfl,hG⟩
      ·rintro q ⟨w,dn,ws,ds,A,N,e,rfl,he,hG⟩
       obtain⟨dw,dd,cs,g1,g2,g3,g4,g5,g6,g7,g8,g9,g10,g11,-⟩:=hG
       obtain⟨zs,z1,z2,z3⟩:=spans_chunk fs.length cs g4 g5
       have hf:=FzL.os (A:=A) (m:=1) (a:=s.nxt+1) (el:=.st 2) (k:=fs.length) (D:=[]) (ys:=cs) (zs:=zs) (by rw[List.take_of_length_le (by show cs.length≤fs.length*2;omega)];exact FzL.scal (List.all_eq_true.2 fun c hc=>by obtain⟨m,rfl⟩:=g5 c hc;rfl)) g3 (by simp) z1
       have hfz:=fun u=>hf.use 19997 u N
       simp only[go_sem,reduceCtorEq,↓reduceIte,nA,nB,nC,nD,nE,iA,iB,iC,iD,iE,iF,he,hfz]
       exact⟨_,0,0,by rw[back_wa (clr_old g10 fun b hb=>by rw[List.mem_singleton.1 hb];omega) (by simp[alow_agg,alow_tup,alowL_cons,alowL_nil,alow_i,alow_s,alow_b,alow_sl,alow_nsl,lst_alow])],.inl ⟨rfl,zs,rfl,z2,z3⟩⟩
     ·simp only[go_sem,reduceCtorEq,↓reduceIte,nA,nB,nC,nD,nE,iA,iB,iC,iD,iE,iF]
      rw[back_wa hold (by simp[alow_agg,alow_tup,alowL_cons,alowL_nil,alow_i,alow_s,alow_b,alow_sl,alow_nsl,lst_alow])]
      exact⟨.nsl,i,50,rfl,.inr ⟨by decide,rfl,by omega,.inl (by omega)⟩⟩
   ·simp only[go_sem,reduceCtorEq,↓reduceIte,nA,nB,nC,nD,nE,iA,iB,iC,iD,iE,iF,h2,h3,h4]
    exact⟨.nsl,i,1,rfl,.inr ⟨by decide,rfl,by omega,.inl (by omega)⟩⟩
end Go.Am
namespace Go.Am
open Go
def gob (v:AV) (b:Bool) (e l c:Int):Ob:=.cells [v,.b b,.i .i64 e,.i .i64 l,.i .i64 c]
structure GS (s:St) (r:Nat) (v:AV) (fs:List FixT) (b:Bool) (e l c:Int):Prop where
 ob:obj s r=some (gob v b e l c)
 gr:∃ d,Gr s.arr s.nxt (.st 5) v (fs.map FixT.av) d
 len:fs.length≤300000
theorem spans_w {s:St} {r:Nat} {v:AV} {fs:List FixT} {e l c:Int} (a:Xp) (ops:List Rop) (hS:GS s r v fs false e l c) (hn:ops.length≤300000) :
  W (C F0 X0 128 [.ref r 0,(Xp.row a ops).av] s) fun q=>∃ (w:AV) (b:Bool) (e' l' c':Int),q=(w,setOb s r (gob v b e' l' c'))∧(b=false→∃ zs,w=.sl (.st 2) zs∧zs.length=ops.length∧∀ z∈zs,isSpan z)∧(∀ n,w.low n=true)∧(∀ n,w.alow n=true)∧w.cells=[w]:=by
 have ho:=hS.ob
 have hk:=obj_lt ho
 obtain⟨d,hgr⟩:=hS.gr
 have hfl:=hS.len
 unfold gob at ho ⊢
 have hbv:(Xp.row a ops).bvs=ops.map Rop.bv:=rfl
 have hoi:∀ (j:Nat) (hj:j<ops.length) k,aiad (.st 4) (lst (.st 4) (ops.map Rop.bv)) (.i k (j:Int))=some (.ep ops[j].bv.cells 0):=fun j hj k=>lst_iad rfl (by rw[List.getElem?_map,List.getElem?_eq_getElem hj];rfl)
 rw[w_call (f:=128) rfl]
 simp only[go_sem,reduceCtorEq,↓reduceIte,nA,nB,nC,nD,nE,iA,iB,iC,iD,iE,iF,hk,hbv,List.length_map]
 obtain⟨c0,c1,c2,c3,c4,c5,c7,c8,hcc⟩:∃ c0 c1 c2 c3 c4 c5 c7 c8,c0=AV.i .i64 (Xp.row a ops).kind∧c1=AV.s (Xp.row a ops).name∧c2=AV.i .i64 (Xp.row a ops).n∧c3=lst .one (strs (Xp.row a ops).params)∧c4=lst (.st 9) ((Xp.row a ops).args.map Xp.av)∧c5=lst (.st 7) ((Xp.row a ops).alts.map Alt.av)∧c7=AV.i .i64 (Xp.row a ops).l∧c8=AV.i .i64 (Xp.row a ops).c:=⟨_,_,_,_,_,_,_,_,rfl,rfl,rfl,rfl,rfl,rfl,rfl,rfl⟩
 obtain⟨h0,h1,h2,h3,h4,h5,h7,h8⟩:=hcc
 rw[←h0,←h1,←h2,←h3,←h4,←h5,←h7,←h8]
 refine W.step (W.range (n:=ops.length) (L:=l128_0) (Q:=fun q=>∃ (xs:List FixT) (v':AV) (A:Nat→Option (List AV)) (N:Nat),q=(.exit 0,[(0,.ref r 0),(3,.ref (cnt s) 0),(5,v'),(12,lst (.st 4) (ops.map Rop.bv)),(13,.i .i64 (ops.length:Int)),(14,.i .i64 (ops.length:Int)),(15,.b false)],wa (ex s [.cells [c0,c1,c2,c3,c4,c5,lst (.st 4) (ops.map Rop.bv),c7,c8]]) A N)∧Loc s.arr s.nxt A N (.st 5) v' (xs.map FixT.av)∧xs.length=ops.length) rfl (fun i e t=>∃ (xs:List FixT) (v':AV) (A:Nat→Option (List AV)) (N:Nat),e=[(0,.ref r 0),(3,.ref (cnt s) 0),(5,v'),(12,lst (.st 4) (ops.map Rop.bv)),(13,.i .i64 (ops.length:Int)),(14,.i .i64 (i:Int))]∧t=wa (ex s [.cells [c0,c1,c2,c3,c4,c5,lst (.st 4) (ops.map Rop.bv),c7,c8]]) A N∧Loc s.arr s.nxt A N (.st 5) v' (xs.map FixT.av)∧xs.length=i) ?_ ?_ 0 _ _ (Nat.zero_le _) ⟨[],.nsl,s.arr,s.nxt,rfl,rfl,Loc.nil,rfl⟩) ?_
 ·rintro i e t ⟨xs,v',A,N,rfl,rfl,hL,hxs⟩ hi
  have g1:=hoi i hi
  generalize ops[i]=o at g1
  obtain⟨nm,ol,oc,ox⟩:=o
  have hob:(Rop.mk nm ol oc ox).bv.cells=[.s nm,.nsl,.i .i64 ol,.i .i64 oc]:=rfl
  rw[hob] at g1
  have g3:decide ((i:Int)<(ops.length:Int))=true:=by simp;omega
  have g5:=@wrap_one i (by omega)
  have hold:=hL.old
  have hgr2:Gr A N (.st 5) v (fs.map FixT.av) d:=hgr.mono fun b hb=>⟨hold b (hgr.lt hb),by obtain⟨_,_,_,_,hN,_⟩:=hL;have:=hgr.lt hb;omega⟩
  simp only[go_sem,reduceCtorEq,↓reduceIte,nA,nB,nC,nD,nE,iA,iB,iC,iD,iE,iF,g1,g3,g5,hk,ho,hL.low]
  refine W.step (Find_w (v:=v) nm _ (hgr2.rd (by decide)) hfl) ?_
  rintro _ ⟨f,rfl⟩
  obtain⟨v2,A2,N2,k1,k2⟩:=hL.push (y:=f.av) (cy:=f.av.cells) rfl f.ele (by simp;unfold most;omega)
  rw[FixT.cells_eq] at k1
  simp only[go_sem,reduceCtorEq,↓reduceIte,nA,nB,nC,nD,nE,iA,iB,iC,iD,iE,iF,g5,hk,hL.low,k1,k2.low]
  exact⟨xs++[f],v2,A2,N2,rfl,rfl,by rw[List.map_append];exact k2,by simp;omega⟩
 ·rintro e t ⟨xs,v',A,N,rfl,rfl,hL,hxs⟩
  have g3:decide ((ops.length:Int)<(ops.length:Int))=false:=by simp
  simp only[go_sem,reduceCtorEq,↓reduceIte,nA,nB,nC,nD,nE,iA,iB,iC,iD,iE,iF,g3,hL.low,hk]
  exact⟨xs,v',A,N,rfl,hL,hxs⟩
 ·rintro q ⟨xs,v',A,N,rfl,hL,hxs⟩
  obtain⟨Bf,k1,k2,-⟩:=hL.finf
  simp only[go_sem,reduceCtorEq,↓reduceIte,nA,nB,nC,nD,nE,iA,iB,iC,iD,iE,iF,hk,hL.low,k1]
  refine W.step (Resolve_w xs _) ?_
  rintro _ ⟨w,k,er,rfl,hw⟩
  have hwlo:∀ n,w.low n=true:=fun n=>by rcases hw with ⟨-,zs,rfl,-⟩|⟨-,rfl,-⟩<;>rfl
  have hwal:∀ n,w.alow n=true:=fun n=>by rcases hw with ⟨-,zs,rfl,-⟩|⟨-,rfl,-⟩<;>rfl
  have hwfz:∀ n u,frz (n+1) w u=some (w,u):=fun n u=>by rcases hw with ⟨-,zs,rfl,-⟩|⟨-,rfl,-⟩<;>rfl
  simp only[go_sem,reduceCtorEq,↓reduceIte,nA,nB,nC,nD,nE,iA,iB,iC,iD,iE,iF,hk,ho]
  rcases hw with ⟨rfl,zs,rfl,z1,z2⟩|⟨hne,rfl,hk0,hk1⟩
  ·simp only[go_sem,reduceCtorEq,↓reduceIte,nA,nB,nC,nD,nE,iA,iB,iC,iD,iE,iF,hk,ho]
   rw[back_wa k2 rfl]
   exact⟨_,false,e,l,c,by rw[set_id ho],fun _=>⟨zs,rfl,by omega,z2⟩,fun _=>rfl,fun _=>rfl,rfl⟩
  ·have hd:(er != 0)=true:=by simp[hne]
   obtain⟨j,rfl⟩:∃ j:Nat,k=(j:Int):=⟨k.toNat,by omega⟩
   have hj:j<ops.length:=by omega
   have g1:=hoi j hj
   generalize ops[j]=o at g1
   obtain⟨nm,ol,oc,ox⟩:=o
   have hob:(Rop.mk nm ol oc ox).bv.cells=[.s nm,.nsl,.i .i64 ol,.i .i64 oc]:=rfl
   rw[hob] at g1
   simp only[go_sem,reduceCtorEq,↓reduceIte,nA,nB,nC,nD,nE,iA,iB,iC,iD,iE,iF,hk,ho,hd,g1]
   rw[back_was k2 rfl (by simp only[alowL_cons,alowL_nil,alow_b,alow_i,hgr.alow (fun b hb=>hgr.lt hb),Bool.and_true])]
   exact⟨_,true,er,ol,oc,rfl,(fun h=>by cases h),fun _=>rfl,fun _=>rfl,rfl⟩
end Go.Am
