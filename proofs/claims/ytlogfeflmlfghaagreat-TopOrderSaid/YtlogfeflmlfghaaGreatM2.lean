/- Part 2 of a machine for Go's pure part and of walks on it. -/
import Derived.Test.YtlogfeflmlfghaaGreatM1
open Nat renaming reduceEqDiff → nA,reduceAdd → nB,reduceLeDiff → nC,reduceLT → nD,reduceMul → nE
open Int renaming reduceBEq → iA,reduceBNe → iB,reduceLT → iC,reduceLE → iD,reduceGT → iE,reduceGE → iF
set_option maxRecDepth 100000
set_option linter.unusedSimpArgs false
set_option linter.unusedVariables false
set_option linter.unusedSectionVars false
namespace Go.Am
open Go
theorem rel_eq (n:Int) (s:St):C F0 X0 151 [.i .i64 n] s=some (.b (decide (n≥6)&&decide (n≤11)),s):=by
 refine W.eq ?_
 rw[w_call (f:=151) rfl]
 simp only[go_sem,reduceCtorEq,↓reduceIte,nA,nB,nC,nD,nE,iA,iB,iC,iD,iE,iF]
 repeat' (refine W.ifc (fun h=>?_) (fun h=>?_)<;>simp only[go_sem,reduceCtorEq,↓reduceIte,nA,nB,nC,nD,nE,iA,iB,iC,iD,iE,iF,h])
 all_goals simp[*]
def classOf (c:Int):Int :=
 if (decide (c≥97)&&decide (c≤122))||c==95 then 1
 else if decide (c≥65)&&decide (c≤90) then 2
 else if decide (c≥48)&&decide (c≤57) then 3
 else if c==40||c==41||c==123||c==125||c==59||c==92 then 4
 else if c==33||c==35||c==36||c==37||c==38||c==42||c==43||c==46||c==47||c==58||c==60||c==61||c==62||c==63||c==64||c==94||c==124||c==126||c==45 then 5
 else 0
@[go_sem] theorem classOf_eq (c:Int) (s:St):C F0 X0 90 [.i .u8 c] s=some (.i .i64 (classOf c),s):=by
 refine W.eq ?_
 rw[w_call (f:=90) rfl]
 simp only[go_sem,reduceCtorEq,↓reduceIte,nA,nB,nC,nD,nE,iA,iB,iC,iD,iE,iF]
 repeat' (refine W.ifc (fun h=>?_) (fun h=>?_)<;>simp only[go_sem,reduceCtorEq,↓reduceIte,nA,nB,nC,nD,nE,iA,iB,iC,iD,iE,iF,h])
 all_goals simp[classOf, *]
def goesOn (b c:Int):Bool :=
 if b==1||b==2 then classOf c==1||classOf c==2||classOf c==3||c==39
 else if b==3||b==5 then classOf c==b else false
@[go_sem] theorem goesOn_eq (b c:Int) (s:St):C F0 X0 91 [.i .i64 b,.i .u8 c] s=some (.b (goesOn b c),s):=by
 refine W.eq ?_
 rw[w_call (f:=91) rfl]
 simp only[go_sem,reduceCtorEq,↓reduceIte,nA,nB,nC,nD,nE,iA,iB,iC,iD,iE,iF]
 repeat' (refine W.ifc (fun h=>?_) (fun h=>?_)<;>simp only[go_sem,reduceCtorEq,↓reduceIte,nA,nB,nC,nD,nE,iA,iB,iC,iD,iE,iF,h])
 all_goals simp[goesOn, *]
def isWord (t:List UInt8):Bool :=
 t==[100,97,116,97]||t==[105,110,102,105,120,108]||t==[105,110,102,105,120,114]||t==[105,110,102,105,120]||t==[108,101,116]||t==[105,110]||t==[99,97,115,101]||t==[111,102]||t==[105,102]||t==[116,104,101,110]||t==[101,108,115,101]
@[go_sem] theorem word_eq (t:List UInt8) (s:St):C F0 X0 124 [.s t] s=some (.b (isWord t),s):=by
 refine W.eq ?_
 rw[w_call (f:=124) rfl]
 simp only[go_sem,reduceCtorEq,↓reduceIte,nA,nB,nC,nD,nE,iA,iB,iC,iD,iE,iF]
 repeat' (refine W.ifc (fun h=>?_) (fun h=>?_)<;>simp only[go_sem,reduceCtorEq,↓reduceIte,nA,nB,nC,nD,nE,iA,iB,iC,iD,iE,iF,h])
 all_goals simp[isWord, *]
def kindOf (b:Int) (t:List UInt8):Int :=
 if b==2 then 2 else if b==3 then 4 else if b==5 then (if t==[61]||t==[124]||t==[45,62] then 5 else 3) else if b==1 then (if t==[95] then 5 else if isWord t then 6 else 1) else 5
@[go_sem] theorem kind_eq (b:Int) (t:List UInt8) (s:St):C F0 X0 92 [.i .i64 b,.s t] s=some (.i .i64 (kindOf b t),s):=by
 refine W.eq ?_
 rw[w_call (f:=92) rfl]
 simp only[go_sem,reduceCtorEq,↓reduceIte,nA,nB,nC,nD,nE,iA,iB,iC,iD,iE,iF]
 repeat' (refine W.ifc (fun h=>?_) (fun h=>?_)<;>simp only[go_sem,reduceCtorEq,↓reduceIte,nA,nB,nC,nD,nE,iA,iB,iC,iD,iE,iF,h])
 all_goals simp[kindOf, *]
structure RS where
 src:List UInt8
 i:Nat
 line:Nat
 col:Nat
def RS.ob (r:RS):Ob:=.cells [.s r.src,.i .i64 r.i,.i .i64 r.line,.i .i64 r.col]
structure RS.ok (r:RS):Prop where
 len:r.src.length≤1000000
 i:r.i≤r.src.length
 line:r.line≤r.i+1
 col:r.col≤r.i+1
def RS.fwd (r:RS) (k:Nat):RS:={ r with i:=r.i+k,col:=r.col+k }
def runOf (p:UInt8→Bool) (l:List UInt8):Nat:=(l.takeWhile p).length
def RS.remark (r:RS):RS:=r.fwd (runOf (fun c=>(c.toNat:Int) != 10) (r.src.drop r.i))
end Go.Am
namespace Go.Am
open Go
theorem remark_at (r:RS) (h:r.i<r.src.length) (hc:((r.src[r.i].toNat:Int) != 10)=true):r.remark=(r.fwd 1).remark:=by
 unfold RS.remark RS.fwd runOf
 dsimp only
 rw[List.drop_eq_getElem_cons h]
 simp only[List.takeWhile_cons,hc,if_true,List.length_cons,RS.mk.injEq,true_and]
 omega
theorem remark_no (r:RS) (h:∀ (h:r.i<r.src.length),((r.src[r.i].toNat:Int) != 10)=false):r.remark=r:=by
 unfold RS.remark RS.fwd runOf
 by_cases hi:r.i<r.src.length
 ·rw[List.drop_eq_getElem_cons hi,List.takeWhile_cons_of_neg (by rw[h hi];exact Bool.false_ne_true)]
  rfl
 ·rw[List.drop_eq_nil_of_le (by omega)]
  rfl
theorem RS.ok.fwd {r:RS} (h:r.ok) {k:Nat} (hk:r.i+k≤r.src.length):(r.fwd k).ok:=by
 obtain⟨h1,h2,h3,h4⟩:=h
 exact⟨h1,hk,by show r.line≤r.i+k+1;omega,by show r.col+k≤r.i+k+1;omega⟩
theorem remark_loop:∀ (n:Nat) (r:RS) (s:St) (bs k:Nat),r.ok→obj s k=some r.ob→r.src.length - r.i≤n →
  E F0 X0 bs l89_0 [(0,.ref k 0)] s=some (.exit 0,[(0,.ref k 0),(23,.b false)],setOb s k r.remark.ob):=by
 intro n
 induction n with
 | zero =>
  intro r s bs k ok ho hn
  have hk:=obj_lt ho
  refine W.eq ?_
  rw[w_lp (L:=l89_0) rfl]
  have hi:¬ r.i<r.src.length:=by omega
  have hr:=remark_no r (fun h=>absurd h hi)
  have hs:=set_id ho
  unfold RS.ob at ho
  have hd:decide ((r.i:Int)<(r.src.length:Int))=false:=by simp;omega
  simp only[go_sem,reduceCtorEq,↓reduceIte,nA,nB,nC,nD,nE,iA,iB,iC,iD,iE,iF,ho,hd,hr,hs]
 | succ n ih =>
  intro r s bs k ok ho hn
  have hk:=obj_lt ho
  obtain⟨o1,o2,o3,o4⟩:=id ok
  have w1:IntKind.i64.wrap ((r.i:Int)+1)=((r.i+1:Nat):Int):=wrap_one (by omega)
  have w2:IntKind.i64.wrap ((r.col:Int)+1)=((r.col+1:Nat):Int):=wrap_one (by omega)
  refine W.eq ?_
  rw[w_lp (L:=l89_0) rfl]
  have hs:=set_id ho
  unfold RS.ob at ho
  simp only[go_sem,reduceCtorEq,↓reduceIte,nA,nB,nC,nD,nE,iA,iB,iC,iD,iE,iF,ho]
  refine W.ifc (fun h=>?_) (fun h=>?_)
  ·have hi:r.i<r.src.length:=by simpa using h
   simp only[go_sem,reduceCtorEq,↓reduceIte,nA,nB,nC,nD,nE,iA,iB,iC,iD,iE,iF,h,ho,List.getElem?_eq_getElem hi]
   refine W.ifc (fun h=>?_) (fun h=>?_)
   ·simp only[go_sem,reduceCtorEq,↓reduceIte,nA,nB,nC,nD,nE,iA,iB,iC,iD,iE,iF,h,ho,hk,w1,w2]
    refine W.of (ih (r.fwd 1) _ bs k (ok.fwd (by omega)) (obj_set hk) (by show r.src.length - (r.i+1)≤n;omega)) ?_
    rw[set_set,remark_at r hi h]
   ·simp only[go_sem,reduceCtorEq,↓reduceIte,nA,nB,nC,nD,nE,iA,iB,iC,iD,iE,iF,h,remark_no r (fun _=>h),hs]
  ·have hi:¬ r.i<r.src.length:=by simpa using h
   simp only[go_sem,reduceCtorEq,↓reduceIte,nA,nB,nC,nD,nE,iA,iB,iC,iD,iE,iF,h,remark_no r (fun h=>absurd h hi),hs]
@[go_sem] theorem remark_eq (r:RS) (s:St) (k:Nat) (ok:r.ok) (ho:obj s k=some r.ob):C F0 X0 89 [.ref k 0] s=some (.tup [],setOb s k r.remark.ob):=by
 refine W.eq ?_
 rw[w_call (f:=89) rfl]
 simp only[go_sem,reduceCtorEq,↓reduceIte,nA,nB,nC,nD,nE,iA,iB,iC,iD,iE,iF,remark_loop _ r s _ k ok ho (Nat.le_refl _)]
end Go.Am
namespace Go.Am
open Go
def RS.nl (r:RS):RS:={ r with i:=r.i+1,line:=r.line+1,col:=1 }
def RS.skip1 (r:RS):Option RS :=
 match r.src[r.i]? with
 | some c =>
  if (c.toNat:Int)==32 then some (r.fwd 1)
  else if (c.toNat:Int)==10 then some r.nl
  else if (c.toNat:Int)==45 then
   match r.src[r.i+1]? with
   | some d=>if (d.toNat:Int)==45 then some r.remark else none
   | none=>none
  else none
 | none=>none
def skipN:Nat→RS→RS
 | 0,r=>r
 | n+1,r =>
  match r.skip1 with
  | some r'=>skipN n r'
  | none=>r
theorem runOf_le (p l):runOf p l≤l.length:=by
 induction l with
 | nil=>exact Nat.le_refl _
 | cons x xs ih =>
  unfold runOf at ih ⊢
  rw[List.takeWhile_cons]
  split
  ·simp only[List.length_cons];omega
  ·simp
theorem RS.remark_ok {r:RS} (h:r.ok):r.remark.ok:=by
 refine h.fwd ?_
 have:=runOf_le (fun c=>(c.toNat:Int) != 10) (r.src.drop r.i)
 rw[List.length_drop] at this
 have:=h.i
 omega
theorem RS.nl_ok {r:RS} (h:r.ok) (hi:r.i<r.src.length):r.nl.ok:=by
 obtain⟨h1,h2,h3,h4⟩:=h
 exact⟨h1,hi,by show r.line+1≤r.i+1+1;omega,by show 1≤r.i+1+1;omega⟩
theorem remark_src (r:RS):r.remark.src=r.src:=(rfl)
theorem remark_i {r:RS} (hi:r.i<r.src.length) (hc:((r.src[r.i].toNat:Int) != 10)=true):r.i<r.remark.i:=by
 rw[remark_at r hi hc]
 show r.i<r.i+1+_
 omega
theorem skip_loop:∀ (n:Nat) (r:RS) (s:St) (bs k:Nat),r.ok→obj s k=some r.ob→r.src.length - r.i≤n →
  W (E F0 X0 bs l52_0 [(0,.ref k 0)] s) fun q=>∃ e,q=(.exit 0,e,setOb s k (skipN n r).ob)∧get e 0=some (.ref k 0):=by
 intro n
 induction n with
 | zero =>
  intro r s bs k ok ho hn
  have hk:=obj_lt ho
  rw[w_lp (L:=l52_0) rfl]
  have hi:¬ r.i<r.src.length:=by omega
  have hs:=set_id ho
  unfold RS.ob at ho
  have hd:decide ((r.i:Int)<(r.src.length:Int))=false:=by simp;omega
  simp only[go_sem,reduceCtorEq,↓reduceIte,nA,nB,nC,nD,nE,iA,iB,iC,iD,iE,iF,ho,hd,hs,skipN]
  exact⟨_,rfl,rfl⟩
 | succ n ih =>
  intro r s bs k ok ho hn
  have hk:=obj_lt ho
  obtain⟨o1,o2,o3,o4⟩:=id ok
  have w1:IntKind.i64.wrap ((r.i:Int)+1)=((r.i+1:Nat):Int):=wrap_one (by omega)
  have w2:IntKind.i64.wrap ((r.col:Int)+1)=((r.col+1:Nat):Int):=wrap_one (by omega)
  have w3:IntKind.i64.wrap ((r.line:Int)+1)=((r.line+1:Nat):Int):=wrap_one (by omega)
  rw[w_lp (L:=l52_0) rfl]
  have hs:=set_id ho
  have ho2:=ho
  unfold RS.ob at ho
  have none_:r.skip1=none→∀ e,get e 0=some (.ref k 0)→∃ e',((.exit 0,e,s):Ex × Env × St)=(.exit 0,e',setOb s k (skipN (n+1) r).ob)∧get e' 0=some (.ref k 0):=by
   intro h e he
   refine⟨e,?_,he⟩
   unfold skipN
   rw[h]
   dsimp only
   rw[hs]
  have some_:∀ r',r.skip1=some r'→r'.ok→r'.src=r.src→r.i<r'.i→∀ st,st=setOb s k r'.ob→W (E F0 X0 bs l52_0 [(0,.ref k 0)] st) fun q=>∃ e,q=(.exit 0,e,setOb s k (skipN (n+1) r).ob)∧get e 0=some (.ref k 0):=by
   intro r' h hok hsrc hi st hst
   subst hst
   refine W.mono (ih r' _ bs k hok (obj_set hk) (by rw[hsrc];omega)) ?_
   rintro q ⟨e,rfl,he⟩
   refine⟨e,?_,he⟩
   rw[set_set]
   have:skipN (n+1) r=skipN n r':=by rw[skipN,h]
   rw[this]
  simp only[go_sem,reduceCtorEq,↓reduceIte,nA,nB,nC,nD,nE,iA,iB,iC,iD,iE,iF,ho]
  refine W.ifc (fun h=>?_) (fun h=>?_)
  ·have hi:r.i<r.src.length:=by simpa using h
   have g0:=List.getElem?_eq_getElem hi
   simp only[go_sem,reduceCtorEq,↓reduceIte,nA,nB,nC,nD,nE,iA,iB,iC,iD,iE,iF,ho,g0]
   refine W.ifc (fun h1=>?_) (fun h1=>?_)
   ·simp only[go_sem,reduceCtorEq,↓reduceIte,nA,nB,nC,nD,nE,iA,iB,iC,iD,iE,iF,h1,ho,hk,w1,w2]
    exact some_ (r.fwd 1) (by unfold RS.skip1;rw[g0];simp only[h1];rfl) (ok.fwd (by omega)) rfl (by show r.i<r.i+1;omega) _ (by simp only[RS.ob,RS.fwd])
   ·simp only[go_sem,reduceCtorEq,↓reduceIte,nA,nB,nC,nD,nE,iA,iB,iC,iD,iE,iF,h1,ho,hk]
    refine W.ifc (fun h2=>?_) (fun h2=>?_)
    ·simp only[go_sem,reduceCtorEq,↓reduceIte,nA,nB,nC,nD,nE,iA,iB,iC,iD,iE,iF,h2,ho,hk,w1,w3]
     exact some_ r.nl (by unfold RS.skip1;rw[g0];simp only[h1,h2];rfl) (RS.nl_ok ok hi) rfl (by show r.i<r.i+1;omega) _ (by simp only[RS.ob,RS.nl];rfl)
    ·simp only[go_sem,reduceCtorEq,↓reduceIte,nA,nB,nC,nD,nE,iA,iB,iC,iD,iE,iF,h2,ho,hk,w1]
     refine W.ifc (fun h3=>?_) (fun h3=>?_)
     ·simp only[go_sem,reduceCtorEq,↓reduceIte,nA,nB,nC,nD,nE,iA,iB,iC,iD,iE,iF,h3,ho,hk,w1]
      refine W.ifc (fun h4=>?_) (fun h4=>?_)
      ·have hj:r.i+1<r.src.length:=by simp at h4;omega
       have g1:=List.getElem?_eq_getElem hj
       simp only[go_sem,reduceCtorEq,↓reduceIte,nA,nB,nC,nD,nE,iA,iB,iC,iD,iE,iF,h4,ho,hk,w1,g1]
       refine W.ifc (fun h5=>?_) (fun h5=>?_)
       ·simp only[go_sem,reduceCtorEq,↓reduceIte,nA,nB,nC,nD,nE,iA,iB,iC,iD,iE,iF,h5,remark_eq r s k ok ho2]
        exact some_ r.remark (by unfold RS.skip1;rw[g0];simp only[h1,h2,h3,g1,h5];rfl) (RS.remark_ok ok) rfl (remark_i hi (by simpa using h2)) _ rfl
       ·simp only[go_sem,reduceCtorEq,↓reduceIte,nA,nB,nC,nD,nE,iA,iB,iC,iD,iE,iF,h5]
        exact none_ (by unfold RS.skip1;rw[g0];simp only[h1,h2,h3,g1,h5];rfl) _ rfl
      ·have hj:¬ r.i+1<r.src.length:=by simp at h4;omega
       simp only[go_sem,reduceCtorEq,↓reduceIte,nA,nB,nC,nD,nE,iA,iB,iC,iD,iE,iF,h4]
       exact none_ (by unfold RS.skip1;rw[g0];simp only[h1,h2,h3,List.getElem?_eq_none (Nat.le_of_not_lt hj)];rfl) _ rfl
     ·simp only[go_sem,reduceCtorEq,↓reduceIte,nA,nB,nC,nD,nE,iA,iB,iC,iD,iE,iF,h3]
      exact none_ (by unfold RS.skip1;rw[g0];simp only[h1,h2,h3];rfl) _ rfl
  ·have hi:¬ r.i<r.src.length:=by simpa using h
   simp only[go_sem,reduceCtorEq,↓reduceIte,nA,nB,nC,nD,nE,iA,iB,iC,iD,iE,iF,h]
   exact none_ (by unfold RS.skip1;rw[List.getElem?_eq_none (by omega)]) _ rfl
end Go.Am
namespace Go.Am
open Go
def RS.skip (r:RS):RS:=skipN (r.src.length - r.i) r
theorem skipN_ok:∀ (n:Nat) {r:RS},r.ok→(skipN n r).ok∧(skipN n r).src=r.src∧r.i≤(skipN n r).i
 | 0,r,h=>⟨h,rfl,Nat.le_refl _⟩
 | n+1,r,h=>by
  rw[skipN]
  have key:∀ r',r.skip1=some r'→r'.ok∧r'.src=r.src∧r.i≤r'.i:=by
   intro r' h1
   unfold RS.skip1 at h1
   split at h1
   ·rename_i c hc
    have hi:=(List.getElem?_eq_some_iff.1 hc).1
    split at h1
    ·injection h1 with h1;subst h1;exact⟨h.fwd (by omega),rfl,by show r.i≤r.i+1;omega⟩
    ·split at h1
     ·injection h1 with h1;subst h1;exact⟨RS.nl_ok h hi,rfl,by show r.i≤r.i+1;omega⟩
     ·split at h1
      ·split at h1
       ·split at h1
        ·injection h1 with h1;subst h1;exact⟨RS.remark_ok h,rfl,by show r.i≤r.i+_;omega⟩
        ·cases h1
       ·cases h1
      ·cases h1
   ·cases h1
  cases h1:r.skip1 with
  | none=>exact⟨h,rfl,Nat.le_refl _⟩
  | some r' =>
   obtain⟨k1,k2,k3⟩:=key r' h1
   obtain⟨j1,j2,j3⟩:=skipN_ok n k1
   exact⟨j1,j2.trans k2,Nat.le_trans k3 j3⟩
@[go_sem] theorem skip_eq (r:RS) (s:St) (k:Nat) (ok:r.ok) (ho:obj s k=some r.ob):C F0 X0 52 [.ref k 0] s=some (.b (decide ((r.skip.i:Int)<(r.src.length:Int))),setOb s k r.skip.ob):=by
 have hk:=obj_lt ho
 have hs:=(skipN_ok (r.src.length - r.i) ok).2.1
 refine W.eq ?_
 rw[w_call (f:=52) rfl]
 simp only[go_sem,reduceCtorEq,↓reduceIte,nA,nB,nC,nD,nE,iA,iB,iC,iD,iE,iF]
 refine W.step (skip_loop _ r s _ k ok ho (Nat.le_refl _)) ?_
 rintro q ⟨e,rfl,he⟩
 simp only[go_sem,reduceCtorEq,↓reduceIte,nA,nB,nC,nD,nE,iA,iB,iC,iD,iE,iF,he]
 simp only[go_sem,reduceCtorEq,↓reduceIte,nA,nB,nC,nD,nE,iA,iB,iC,iD,iE,iF,he,hk,RS.ob,RS.skip,hs]
 rfl
def digits:List UInt8→Nat→Option Nat
 | [],u=>some u
 | c::l,u=>if (c.toNat:Int)<48∨(c.toNat:Int)>57 then none else digits l (u*10+(c.toNat - 48))
def parseNum (t:List UInt8):Int × Int :=
 let neg:=(t.head?.map fun c=>(c.toNat:Int)==45).getD false
 let ds:=if neg then t.drop 1 else t
 if ds.length=0∨ds.length>19∨((ds.head?.map fun c=>(c.toNat:Int)==48).getD false=true∧t.length>1) then (0,11)
 else
  match digits ds 0 with
  | none=>(0,11)
  | some u=>if u>9223372036854775808∨(u=9223372036854775808∧neg=false) then (0,11) else (if neg then -(u:Int) else u,0)
theorem digits_loop:∀ (l pre:List UInt8) (u:Nat) (s:St) (bs:Nat) (t:Bool),pre.length+l.length≤19→u<10 ^ pre.length →
  W (E F0 X0 bs l125_0 [(4,.s (pre++l)),(5,.b t),(6,.i .u64 u),(7,.b true),(8,.i .i64 pre.length)] s) fun q=>∃ e,
   q=(.exit 0,e,s)∧get e 5=some (.b t)∧get e 7=some (.b (digits l u).isSome)∧(∃ x,get e 6=some x)∧∀ v,digits l u=some v→get e 6=some (.i .u64 v)∧v<10 ^ 19:=by
 intro l
 induction l with
 | nil =>
  intro pre u s bs t hl hu
  rw[w_lp (L:=l125_0) rfl]
  simp only[go_sem,reduceCtorEq,↓reduceIte,nA,nB,nC,nD,nE,iA,iB,iC,iD,iE,iF,List.append_nil,Int.lt_irrefl,decide_false]
  refine⟨_,rfl,rfl,rfl,⟨_,rfl⟩,fun v hv=>?_⟩
  injection hv with hv
  subst hv
  refine⟨rfl,Nat.lt_of_lt_of_le hu (Nat.pow_le_pow_right (by omega) ?_)⟩
  simpa using hl
 | cons c l ih =>
  intro pre u s bs t hl hu
  rw[w_lp (L:=l125_0) rfl]
  have hd:decide ((pre.length:Int)<((pre++c::l).length:Int))=true:=by simp;omega
  have hg:(pre++c::l)[pre.length]?=some c:=by simp
  have hp:10 ^ pre.length≤10 ^ 18:=Nat.pow_le_pow_right (by omega) (by simp at hl;omega)
  have hc:=c.toNat_lt
  have w1:IntKind.i64.wrap ((pre.length:Int)+1)=(((pre++[c]).length:Nat):Int):=by rw[wrap_one (by simp at hl;omega)];simp
  simp only[go_sem,reduceCtorEq,↓reduceIte,nA,nB,nC,nD,nE,iA,iB,iC,iD,iE,iF,hd,hg]
  have stop:digits (c::l) u=none→∀ e:Env,get e 5=some (.b t)→get e 7=some (.b false)→(∃ x,get e 6=some x)→∃ e',((.exit 0,e,s):Ex × Env × St)=(.exit 0,e',s)∧get e' 5=some (.b t)∧get e' 7=some (.b (digits (c::l) u).isSome)∧(∃ x,get e' 6=some x)∧∀ v,digits (c::l) u=some v→get e' 6=some (.i .u64 v)∧v<10 ^ 19:=by
   intro h e h5 h7 h6
   refine⟨e,rfl,h5,by rw[h7,h];rfl,h6,fun v hv=>?_⟩
   rw[h] at hv
   cases hv
  refine W.ifc (fun h=>?_) (fun h=>?_)
  ·simp only[go_sem,reduceCtorEq,↓reduceIte,nA,nB,nC,nD,nE,iA,iB,iC,iD,iE,iF,h]
   exact stop (by unfold digits;rw[if_pos (.inl (by simpa using h))]) _ rfl rfl ⟨_,rfl⟩
  ·simp only[go_sem,reduceCtorEq,↓reduceIte,nA,nB,nC,nD,nE,iA,iB,iC,iD,iE,iF,h]
   refine W.ifc (fun h2=>?_) (fun h2=>?_)
   ·simp only[go_sem,reduceCtorEq,↓reduceIte,nA,nB,nC,nD,nE,iA,iB,iC,iD,iE,iF,h2]
    exact stop (by unfold digits;rw[if_pos (.inr (by simpa using h2))]) _ rfl rfl ⟨_,rfl⟩
   ·simp at h h2
    have w2:IntKind.u64.wrap ((u:Int)*10)=((u*10:Nat):Int):=by rw[←wrap_u64 (n:=u*10) (by omega)];rfl
    have w3:IntKind.u8.wrap ((c.toNat:Int) - 48)=((c.toNat - 48:Nat):Int):=by rw[←wrap_u8 (n:=c.toNat - 48) (by omega)];congr 1;omega
    have w4:IntKind.u64.wrap ((c.toNat - 48:Nat):Int)=((c.toNat - 48:Nat):Int):=wrap_u64 (by omega)
    have w5:IntKind.u64.wrap (((u*10:Nat):Int)+((c.toNat - 48:Nat):Int))=((u*10+(c.toNat - 48):Nat):Int):=by rw[←Int.natCast_add];exact wrap_u64 (by omega)
    simp only[go_sem,reduceCtorEq,↓reduceIte,nA,nB,nC,nD,nE,iA,iB,iC,iD,iE,iF,h2,w1,w2,w3,w4,w5]
    have:=ih (pre++[c]) (u*10+(c.toNat - 48)) s bs t (by simp at hl ⊢;omega) (by simp[Nat.pow_succ];omega)
    rw[List.append_assoc] at this
    have hdg:digits (c::l) u=digits l (u*10+(c.toNat - 48)):=by
     rw[digits,if_neg (by omega)]
    rw[hdg]
    exact this
theorem idx0 (c:UInt8) (l:List UInt8):aidx (.s (c::l)) (.i .i64 0)=some (.i .u8 (c.toNat:Int)):=by rw[show (0:Int)=((0:Nat):Int) from rfl,idx_nat];rfl
def parseTail (t ds:List UInt8) (neg:Bool):Int × Int :=
 if ds==[] then (0,11) else if decide ((ds.length:Int)>19) then (0,11)
 else if ((ds.head?.map fun c=>(c.toNat:Int)==48).getD false&&decide ((t.length:Int)>1)) then (0,11)
 else
  match digits ds 0 with
  | none=>(0,11)
  | some u=>if decide ((u:Int)>9223372036854775808) then (0,11) else if (u:Int)==9223372036854775808&&!neg then (0,11) else (if neg then IntKind.i64.wrap (IntKind.u64.wrap (0 - (u:Int))) else IntKind.i64.wrap (u:Int),0)
def parseN (t:List UInt8):Int × Int :=
 match t with
 | []=>(0,11)
 | c::l=>if (c.toNat:Int)==45 then parseTail t l true else parseTail t t false
@[go_sem] theorem parse_eq (t:List UInt8) (s:St):C F0 X0 125 [.s t] s=some (.tup [.i .i64 (parseN t).1,.i .i64 (parseN t).2],s):=by
 refine W.eq ?_
 rw[w_call (f:=125) rfl]
 cases t with
 | nil =>
  simp only[go_sem,reduceCtorEq,↓reduceIte,nA,nB,nC,nD,nE,iA,iB,iC,iD,iE,iF,List.length_nil,Int.natCast_zero,Int.lt_irrefl,decide_false,beq_self_eq_true,gt_iff_lt]
  rfl
 | cons c l =>
  have h0:decide ((((l.length+1:Nat)):Int)>0)=true:=by simp
  have g1:aslice true (.s (c::l)) (some (.i .i64 1)) none=some (.s l):=slc_from (a:=1) (by simp)
  simp only[go_sem,reduceCtorEq,↓reduceIte,nA,nB,nC,nD,nE,iA,iB,iC,iD,iE,iF,h0,idx0]
  refine W.ifc (fun h=>?_) (fun h=>?_)
  ·have hp:parseN (c::l)=parseTail (c::l) l true:=by simp only[parseN,h,if_true]
   rw[hp]
   cases l with
   | nil =>
    simp only[go_sem,reduceCtorEq,↓reduceIte,nA,nB,nC,nD,nE,iA,iB,iC,iD,iE,iF,h,g1,beq_self_eq_true]
    rfl
   | cons d l =>
    have hne:((d::l)==([]:List UInt8))=false:=rfl
    simp only[go_sem,reduceCtorEq,↓reduceIte,nA,nB,nC,nD,nE,iA,iB,iC,iD,iE,iF,h,g1,idx0,hne]
    refine W.ifc (fun h1=>?_) (fun h1=>?_)
    ·simp only[go_sem,reduceCtorEq,↓reduceIte,nA,nB,nC,nD,nE,iA,iB,iC,iD,iE,iF,h1]
     unfold parseTail
     simp only[hne,List.length_cons,h1,if_true,if_false,Bool.false_eq_true]
    ·simp only[go_sem,reduceCtorEq,↓reduceIte,nA,nB,nC,nD,nE,iA,iB,iC,iD,iE,iF,h1,idx0]
     have hlen:([]:List UInt8).length+(d::l).length≤19:=by simp at h1 ⊢;omega
     have hd0:=digits_loop (d::l) [] 0 s (cnt s) true hlen (by simp)
     have walk:∀ (hz:((d.toNat:Int)==48&&decide (((c::d::l).length:Int)>1))=false),parseTail (c::d::l) (d::l) true=(match digits (d::l) 0 with
      | none=>(0,11)
      | some u=>if decide ((u:Int)>9223372036854775808) then (0,11) else if (u:Int)==9223372036854775808&&!true then (0,11) else (if true then IntKind.i64.wrap (IntKind.u64.wrap (0 - (u:Int))) else IntKind.i64.wrap (u:Int),0)):=by
      intro hz
      unfold parseTail
      simp only[hne,List.length_cons,h1,if_false,Bool.false_eq_true,List.head?_cons,Option.map_some,Option.getD_some]
      simp only[List.length_cons] at hz
      rw[hz]
      rfl
     refine W.ifc (fun h2=>?_) (fun h2=>?_)
     ·simp only[go_sem,reduceCtorEq,↓reduceIte,nA,nB,nC,nD,nE,iA,iB,iC,iD,iE,iF,h2]
      refine W.ifc (fun h3=>?_) (fun h3=>?_)
      ·simp only[go_sem,reduceCtorEq,↓reduceIte,nA,nB,nC,nD,nE,iA,iB,iC,iD,iE,iF,h3]
       unfold parseTail
       simp only[hne,List.length_cons,h1,h2,h3,if_true,if_false,Bool.false_eq_true,List.head?_cons,Option.map_some,Option.getD_some,Bool.and_self]
      ·simp only[go_sem,reduceCtorEq,↓reduceIte,nA,nB,nC,nD,nE,iA,iB,iC,iD,iE,iF,h3]
       rw[walk (by simp only[List.length_cons,h2,h3];rfl)]
       refine W.step hd0 ?_
       rintro q ⟨e,rfl,h5,h7,⟨x6,hx6⟩,h6⟩
       cases hdg:digits (d::l) 0 with
       | none =>
        rw[hdg] at h7
        simp only[go_sem,reduceCtorEq,↓reduceIte,nA,nB,nC,nD,nE,iA,iB,iC,iD,iE,iF,h5,h7,hx6,Option.isSome_none]
       | some u =>
        rw[hdg] at h7
        obtain⟨h6,-⟩:=h6 u hdg
        simp only[go_sem,reduceCtorEq,↓reduceIte,nA,nB,nC,nD,nE,iA,iB,iC,iD,iE,iF,h5,h7,h6,Option.isSome_some,Bool.not_true,Bool.not_false]
        repeat' (refine W.ifc (fun h=>?_) (fun h=>?_)<;>simp only[go_sem,reduceCtorEq,↓reduceIte,nA,nB,nC,nD,nE,iA,iB,iC,iD,iE,iF,h,h5,h6,Bool.not_true,Bool.not_false])
        all_goals simp[*]
     ·simp only[go_sem,reduceCtorEq,↓reduceIte,nA,nB,nC,nD,nE,iA,iB,iC,iD,iE,iF,h2]
      rw[walk (by simp only[h2];rfl)]
      refine W.step hd0 ?_
      rintro q ⟨e,rfl,h5,h7,⟨x6,hx6⟩,h6⟩
      cases hdg:digits (d::l) 0 with
      | none =>
       rw[hdg] at h7
       simp only[go_sem,reduceCtorEq,↓reduceIte,nA,nB,nC,nD,nE,iA,iB,iC,iD,iE,iF,h5,h7,hx6,Option.isSome_none]
      | some u =>
       rw[hdg] at h7
       obtain⟨h6,-⟩:=h6 u hdg
       simp only[go_sem,reduceCtorEq,↓reduceIte,nA,nB,nC,nD,nE,iA,iB,iC,iD,iE,iF,h5,h7,h6,Option.isSome_some,Bool.not_true,Bool.not_false]
       repeat' (refine W.ifc (fun h=>?_) (fun h=>?_)<;>simp only[go_sem,reduceCtorEq,↓reduceIte,nA,nB,nC,nD,nE,iA,iB,iC,iD,iE,iF,h,h5,h6,Bool.not_true,Bool.not_false])
       all_goals simp[*]
  ·have hp:parseN (c::l)=parseTail (c::l) (c::l) false:=by simp only[parseN,h,if_false,Bool.false_eq_true]
   rw[hp]
   have hne:((c::l)==([]:List UInt8))=false:=rfl
   simp only[go_sem,reduceCtorEq,↓reduceIte,nA,nB,nC,nD,nE,iA,iB,iC,iD,iE,iF,h,idx0,hne]
   refine W.ifc (fun h1=>?_) (fun h1=>?_)
   ·simp only[go_sem,reduceCtorEq,↓reduceIte,nA,nB,nC,nD,nE,iA,iB,iC,iD,iE,iF,h1]
    unfold parseTail
    simp only[hne,List.length_cons,h1,if_true,if_false,Bool.false_eq_true]
   ·simp only[go_sem,reduceCtorEq,↓reduceIte,nA,nB,nC,nD,nE,iA,iB,iC,iD,iE,iF,h1,idx0]
    have hlen:([]:List UInt8).length+(c::l).length≤19:=by simp at h1 ⊢;omega
    have hd0:=digits_loop (c::l) [] 0 s (cnt s) false hlen (by simp)
    have walk:∀ (hz:((c.toNat:Int)==48&&decide (((c::l).length:Int)>1))=false),parseTail (c::l) (c::l) false=(match digits (c::l) 0 with
     | none=>(0,11)
     | some u=>if decide ((u:Int)>9223372036854775808) then (0,11) else if (u:Int)==9223372036854775808&&!false then (0,11) else (if false then IntKind.i64.wrap (IntKind.u64.wrap (0 - (u:Int))) else IntKind.i64.wrap (u:Int),0)):=by
     intro hz
     unfold parseTail
     simp only[hne,List.length_cons,h1,if_false,Bool.false_eq_true,List.head?_cons,Option.map_some,Option.getD_some]
     simp only[List.length_cons] at hz
     rw[hz]
     rfl
    refine W.ifc (fun h2=>?_) (fun h2=>?_)
    ·simp only[go_sem,reduceCtorEq,↓reduceIte,nA,nB,nC,nD,nE,iA,iB,iC,iD,iE,iF,h2]
     refine W.ifc (fun h3=>?_) (fun h3=>?_)
     ·simp only[go_sem,reduceCtorEq,↓reduceIte,nA,nB,nC,nD,nE,iA,iB,iC,iD,iE,iF,h3]
      unfold parseTail
      simp only[hne,List.length_cons,h1,h2,h3,if_true,if_false,Bool.false_eq_true,List.head?_cons,Option.map_some,Option.getD_some,Bool.and_self]
     ·simp only[go_sem,reduceCtorEq,↓reduceIte,nA,nB,nC,nD,nE,iA,iB,iC,iD,iE,iF,h3]
      rw[walk (by simp only[List.length_cons,h2,h3];rfl)]
      refine W.step hd0 ?_
      rintro q ⟨e,rfl,h5,h7,⟨x6,hx6⟩,h6⟩
      cases hdg:digits (c::l) 0 with
      | none =>
       rw[hdg] at h7
       simp only[go_sem,reduceCtorEq,↓reduceIte,nA,nB,nC,nD,nE,iA,iB,iC,iD,iE,iF,h5,h7,hx6,Option.isSome_none]
      | some u =>
       rw[hdg] at h7
       obtain⟨h6,-⟩:=h6 u hdg
       simp only[go_sem,reduceCtorEq,↓reduceIte,nA,nB,nC,nD,nE,iA,iB,iC,iD,iE,iF,h5,h7,h6,Option.isSome_some,Bool.not_true,Bool.not_false]
       repeat' (refine W.ifc (fun h=>?_) (fun h=>?_)<;>simp only[go_sem,reduceCtorEq,↓reduceIte,nA,nB,nC,nD,nE,iA,iB,iC,iD,iE,iF,h,h5,h6,Bool.not_true,Bool.not_false])
       all_goals simp[*]
    ·simp only[go_sem,reduceCtorEq,↓reduceIte,nA,nB,nC,nD,nE,iA,iB,iC,iD,iE,iF,h2]
     rw[walk (by simp only[h2];rfl)]
     refine W.step hd0 ?_
     rintro q ⟨e,rfl,h5,h7,⟨x6,hx6⟩,h6⟩
     cases hdg:digits (c::l) 0 with
     | none =>
      rw[hdg] at h7
      simp only[go_sem,reduceCtorEq,↓reduceIte,nA,nB,nC,nD,nE,iA,iB,iC,iD,iE,iF,h5,h7,hx6,Option.isSome_none]
     | some u =>
      rw[hdg] at h7
      obtain⟨h6,-⟩:=h6 u hdg
      simp only[go_sem,reduceCtorEq,↓reduceIte,nA,nB,nC,nD,nE,iA,iB,iC,iD,iE,iF,h5,h7,h6,Option.isSome_some,Bool.not_true,Bool.not_false]
      repeat' (refine W.ifc (fun h=>?_) (fun h=>?_)<;>simp only[go_sem,reduceCtorEq,↓reduceIte,nA,nB,nC,nD,nE,iA,iB,iC,iD,iE,iF,h,h5,h6,Bool.not_true,Bool.not_false])
      all_goals simp[*]
end Go.Am
namespace Go.Am
open Go
def leastT:List UInt8:=[57,50,50,51,51,55,50,48,51,54,56,53,52,55,55,53,56,48,56]
def valueOf (t:List UInt8):Int × Int:=if t==leastT then parseN (45::t) else parseN t
theorem s_add {a b:List UInt8} (h:a.length+b.length≤most):abin .add (.s a) (.s b)=some (.s (a++b)):=by
 show (if a.length+b.length≤most then some (AV.s (a++b)) else none)=_
 rw[if_pos h]
@[go_sem] theorem value_eq (t:List UInt8) (s:St):C F0 X0 93 [.s t] s=some (.tup [.i .i64 (valueOf t).1,.i .i64 (valueOf t).2],s):=by
 refine W.eq ?_
 rw[w_call (f:=93) rfl]
 simp only[go_sem,reduceCtorEq,↓reduceIte,nA,nB,nC,nD,nE,iA,iB,iC,iD,iE,iF]
 refine W.ifc (fun h=>?_) (fun h=>?_)
 ·have ht:t=leastT:=eq_of_beq h
  have hl:([45]:List UInt8).length+t.length≤most:=by rw[ht];decide
  simp only[go_sem,reduceCtorEq,↓reduceIte,nA,nB,nC,nD,nE,iA,iB,iC,iD,iE,iF,h,s_add hl,valueOf,leastT,if_true]
 ·simp only[go_sem,reduceCtorEq,↓reduceIte,nA,nB,nC,nD,nE,iA,iB,iC,iD,iE,iF,h,valueOf,leastT,if_false,Bool.false_eq_true]
theorem goes_loop:∀ (n:Nat) (r:RS) (s:St) (bs k:Nat) (b x5:Int) (x2 x6:AV),r.ok→obj s k=some r.ob→r.src.length - r.i≤n →
  W (E F0 X0 bs l53_0 [(0,.ref k 0),(2,x2),(4,.i .i64 b),(5,.i .i64 x5),(6,x6)] s) fun q=>∃ e,q=(.exit 0,e,setOb s k ({ r with i:=r.i+runOf (fun c=>goesOn b c.toNat) (r.src.drop r.i) }:RS).ob) ∧
   get e 0=some (.ref k 0)∧get e 2=some x2∧get e 4=some (.i .i64 b)∧get e 5=some (.i .i64 x5)∧get e 6=some x6:=by
 intro n
 induction n with
 | zero =>
  intro r s bs k b x5 x2 x6 ok ho hn
  have hk:=obj_lt ho
  have hi:¬ r.i<r.src.length:=by omega
  have hs:=set_id ho
  have h0:({ r with i:=r.i+runOf (fun c=>goesOn b c.toNat) (r.src.drop r.i) }:RS)=r:=by
   rw[List.drop_eq_nil_of_le (by omega)];rfl
  rw[h0,hs,w_lp (L:=l53_0) rfl]
  unfold RS.ob at ho
  have hd:decide ((r.i:Int)<(r.src.length:Int))=false:=by simp;omega
  simp only[go_sem,reduceCtorEq,↓reduceIte,nA,nB,nC,nD,nE,iA,iB,iC,iD,iE,iF,ho,hd]
  exact⟨_,rfl,rfl,rfl,rfl,rfl,rfl⟩
 | succ n ih =>
  intro r s bs k b x5 x2 x6 ok ho hn
  have hk:=obj_lt ho
  obtain⟨o1,o2,o3,o4⟩:=id ok
  have hs:=set_id ho
  have w1:IntKind.i64.wrap ((r.i:Int)+1)=((r.i+1:Nat):Int):=wrap_one (by omega)
  rw[w_lp (L:=l53_0) rfl]
  unfold RS.ob at ho
  simp only[go_sem,reduceCtorEq,↓reduceIte,nA,nB,nC,nD,nE,iA,iB,iC,iD,iE,iF,ho]
  refine W.ifc (fun h=>?_) (fun h=>?_)
  ·have hi:r.i<r.src.length:=by simpa using h
   have g0:=List.getElem?_eq_getElem hi
   simp only[go_sem,reduceCtorEq,↓reduceIte,nA,nB,nC,nD,nE,iA,iB,iC,iD,iE,iF,h,ho,g0]
   refine W.ifc (fun h1=>?_) (fun h1=>?_)
   ·simp only[go_sem,reduceCtorEq,↓reduceIte,nA,nB,nC,nD,nE,iA,iB,iC,iD,iE,iF,h1,ho,hk,w1]
    have hrun:runOf (fun c=>goesOn b c.toNat) (r.src.drop r.i)=runOf (fun c=>goesOn b c.toNat) (r.src.drop (r.i+1))+1:=by
     rw[List.drop_eq_getElem_cons hi]
     simp only[runOf,List.takeWhile_cons,h1,if_true,List.length_cons]
    refine W.mono (ih { r with i:=r.i+1 } _ bs k b x5 x2 x6 ⟨o1,by show r.i+1≤r.src.length;omega,by show r.line≤r.i+1+1;omega,by show r.col≤r.i+1+1;omega⟩ (obj_set hk) (by show r.src.length - (r.i+1)≤n;omega)) ?_
    rintro q ⟨e,rfl,he⟩
    refine⟨e,?_,he⟩
    rw[set_set,hrun]
    simp only[RS.ob]
    rw[show r.i+1+runOf (fun c=>goesOn b c.toNat) (r.src.drop (r.i+1))=r.i+(runOf (fun c=>goesOn b c.toNat) (r.src.drop (r.i+1))+1) by omega]
   ·have h0:({ r with i:=r.i+runOf (fun c=>goesOn b c.toNat) (r.src.drop r.i) }:RS)=r:=by
     rw[List.drop_eq_getElem_cons hi]
     simp only[runOf,List.takeWhile_cons,h1,if_false,Bool.false_eq_true,List.length_nil,Nat.add_zero]
    rw[h0,hs]
    simp only[go_sem,reduceCtorEq,↓reduceIte,nA,nB,nC,nD,nE,iA,iB,iC,iD,iE,iF,h1]
    exact⟨_,rfl,rfl,rfl,rfl,rfl,rfl⟩
  ·have hi:¬ r.i<r.src.length:=by simpa using h
   have h0:({ r with i:=r.i+runOf (fun c=>goesOn b c.toNat) (r.src.drop r.i) }:RS)=r:=by
    rw[List.drop_eq_nil_of_le (by omega)];rfl
   rw[h0,hs]
   simp only[go_sem,reduceCtorEq,↓reduceIte,nA,nB,nC,nD,nE,iA,iB,iC,iD,iE,iF,h]
   exact⟨_,rfl,rfl,rfl,rfl,rfl,rfl⟩
structure Tok where
 kind:Int
 text:List UInt8
 n:Int
 line:Nat
 col:Nat
 made:Bool
def Tok.av (t:Tok):AV:=.agg [.i .i64 t.kind,.s t.text,.i .i64 t.n,.i .i64 t.line,.i .i64 t.col,.b t.made]
def tok0:Tok:=⟨0,[],0,0,0,false⟩
def RS.next (r:RS):(Tok × Int) × RS :=
 match r.src[r.i]? with
 | none=>((tok0,0),r)
 | some c =>
  if classOf c.toNat==0 then ((tok0,20),r)
  else
   let k:=runOf (fun d=>goesOn (classOf c.toNat) d.toNat) (r.src.drop (r.i+1))+1
   let text:=(r.src.take (r.i+k)).drop r.i
   let r2:=r.fwd k
   let kd:=kindOf (classOf c.toNat) text
   if kd != 4&&decide ((text.length:Int)>32) then ((tok0,2),r2)
   else
    let p:=if kd==4 then valueOf text else (0,0)
    if p.2 != 0 then ((tok0,p.2),r2) else ((⟨kd,text,p.1,r.line,r.col,false⟩,0),r2)
theorem next_eq (r:RS) (s:St) (k:Nat) (ok:r.ok) (ho:obj s k=some r.ob) (hi:r.i<r.src.length):C F0 X0 53 [.ref k 0] s=some (.tup [r.next.1.1.av,.i .i64 r.next.1.2],setOb s k r.next.2.ob):=by
 have hk:=obj_lt ho
 have hk1:k<cnt s+1:=by omega
 have hk2:k≠cnt s:=by omega
 obtain⟨o1,o2,o3,o4⟩:=id ok
 have hs:=set_id ho
 have g0:=List.getElem?_eq_getElem hi
 have w1:IntKind.i64.wrap ((r.i:Int)+1)=((r.i+1:Nat):Int):=wrap_one (by omega)
 refine W.eq ?_
 rw[w_call (f:=53) rfl]
 have ho2:=ho
 unfold RS.ob at ho
 simp only[go_sem,reduceCtorEq,↓reduceIte,nA,nB,nC,nD,nE,iA,iB,iC,iD,iE,iF,ho,hk,hk1,g0]
 refine W.ifc (fun h=>?_) (fun h=>?_)
 ·simp only[go_sem,reduceCtorEq,↓reduceIte,nA,nB,nC,nD,nE,iA,iB,iC,iD,iE,iF,h,ho,hk,hk1]
  have hm:r.next=((tok0,20),r):=by unfold RS.next;rw[g0];simp only[h,if_true]
  rw[hm]
  show _=(_,setOb s k r.ob)
  rw[hs]
  rfl
 ·simp only[go_sem,reduceCtorEq,↓reduceIte,nA,nB,nC,nD,nE,iA,iB,iC,iD,iE,iF,h,ho,hk,hk1,w1]
  refine W.step (goes_loop _ { r with i:=r.i+1 } _ _ k _ _ _ _ ⟨o1,hi,by show r.line≤r.i+1+1;omega,by show r.col≤r.i+1+1;omega⟩ (by simp only[go_sem,reduceCtorEq,↓reduceIte,nA,nB,nC,nD,nE,iA,iB,iC,iD,iE,iF,hk,hk1,RS.ob]) (Nat.le_refl _)) ?_
  rintro q ⟨e,rfl,e0,e2,e4,e5,e6⟩
  have hj:=runOf_le (fun d:UInt8=>goesOn (classOf (r.src[r.i].toNat:Int)) d.toNat) (r.src.drop (r.i+1))
  rw[List.length_drop] at hj
  have hnx:r.next=(let k:=runOf (fun d=>goesOn (classOf (r.src[r.i].toNat:Int)) d.toNat) (r.src.drop (r.i+1))+1
   let text:=(r.src.take (r.i+k)).drop r.i
   let r2:=r.fwd k
   let kd:=kindOf (classOf (r.src[r.i].toNat:Int)) text
   if kd != 4&&decide ((text.length:Int)>32) then ((tok0,2),r2)
   else
    let p:=if kd==4 then valueOf text else (0,0)
    if p.2 != 0 then ((tok0,p.2),r2) else ((⟨kd,text,p.1,r.line,r.col,false⟩,0),r2)):=by
   unfold RS.next;rw[g0];simp only[h,if_false,Bool.false_eq_true]
  rw[hnx]
  dsimp only
  generalize hJ:runOf (fun d:UInt8=>goesOn (classOf (r.src[r.i].toNat:Int)) d.toNat) (r.src.drop (r.i+1))=j at hj ⊢
  have g1:aslice true (.s r.src) (some (.i .i64 (r.i:Int))) (some (.i .i64 ((r.i+1+j:Nat):Int)))=some (.s ((r.src.take (r.i+(j+1))).drop r.i)):=by
   rw[slc_nat (by omega) (by omega),show r.i+1+j=r.i+(j+1) by omega]
  have w2:IntKind.i64.wrap (((r.i+1+j:Nat):Int) - (r.i:Int))=((j+1:Nat):Int):=by rw[←wrap_nat (n:=j+1) (by omega)];congr 1;omega
  have w3:IntKind.i64.wrap ((r.col:Int)+((j+1:Nat):Int))=((r.col+(j+1):Nat):Int):=wrap_add (by omega)
  generalize htx:(r.src.take (r.i+(j+1))).drop r.i=text at g1 ⊢
  simp only[go_sem,reduceCtorEq,↓reduceIte,nA,nB,nC,nD,nE,iA,iB,iC,iD,iE,iF,e0,e2,e4,e5,e6,hk,hk1,RS.ob,g1,w2,w3]
  have hij:r.i+(j+1)=r.i+1+j:=by omega
  generalize hkd:kindOf (classOf (r.src[r.i].toNat:Int)) text=kd
  refine W.ifc (fun h4=>?_) (fun h4=>?_)
  ·have h4':(kd==4)=false:=by simpa[bne] using h4
   simp only[go_sem,reduceCtorEq,↓reduceIte,nA,nB,nC,nD,nE,iA,iB,iC,iD,iE,iF,h4,hk,hk1]
   refine W.ifc (fun h5=>?_) (fun h5=>?_)
   ·simp only[go_sem,reduceCtorEq,↓reduceIte,nA,nB,nC,nD,nE,iA,iB,iC,iD,iE,iF,h5,hk,hk1,h4,Bool.and_self,if_true]
    simp only[RS.fwd,hij];rfl
   ·simp only[go_sem,reduceCtorEq,↓reduceIte,nA,nB,nC,nD,nE,iA,iB,iC,iD,iE,iF,h5,h4',hk,hk1,Bool.and_false,RS.fwd,hij]
    rfl
  ·have h4':(kd==4)=true:=by simpa[bne] using h4
   simp only[go_sem,reduceCtorEq,↓reduceIte,nA,nB,nC,nD,nE,iA,iB,iC,iD,iE,iF,h4,h4',hk,hk1]
   refine W.ifc (fun h5=>?_) (fun h5=>?_)
   ·simp only[go_sem,reduceCtorEq,↓reduceIte,nA,nB,nC,nD,nE,iA,iB,iC,iD,iE,iF,h5,hk,hk1]
    simp only[h4,h4',h5,Bool.false_and,if_false,if_true,Bool.false_eq_true]
    simp only[RS.fwd,hij];rfl
   ·simp only[go_sem,reduceCtorEq,↓reduceIte,nA,nB,nC,nD,nE,iA,iB,iC,iD,iE,iF,h5,hk,hk1]
    simp only[h4,h4',h5,Bool.false_and,if_false,if_true,Bool.false_eq_true]
    simp only[RS.fwd,hij];rfl
end Go.Am
namespace Go.Am
open Go
def wa (s:St) (A:Nat→Option (List AV)) (N:Nat):St:={ s with arr:=A,nxt:=N }
section
variable {s:St} {A:Nat→Option (List AV)} {N:Nat}
theorem wa_arr:(wa s A N).arr=A:=(rfl)
theorem wa_nxt:(wa s A N).nxt=N:=(rfl)
theorem wa_wa {A' N'}:wa (wa s A N) A' N'=wa s A' N':=(rfl)
theorem wa_id:wa s s.arr s.nxt=s:=(rfl)
theorem wa_obj {r}:obj (wa s A N) r=obj s r:=(rfl)
theorem wa_cnt:cnt (wa s A N)=cnt s:=(rfl)
theorem wa_set {r o}:setOb (wa s A N) r o=wa (setOb s r o) A N:=(rfl)
theorem wa_new {o}:newOb (wa s A N) o=wa (newOb s o) A N:=(rfl)
theorem wa_cut {n v}:cut n v (wa s A N)=wa (cut n v s) A N:=by unfold cut wa;split<;>rfl
theorem wa_tk {n}:tk n (wa s A N)=wa (tk n s) A N:=(rfl)
theorem set_arr {r o}:(setOb s r o).arr=s.arr:=(rfl)
theorem set_nxt {r o}:(setOb s r o).nxt=s.nxt:=(rfl)
theorem new_arr {o}:(newOb s o).arr=s.arr:=(rfl)
theorem new_nxt {o}:(newOb s o).nxt=s.nxt:=(rfl)
theorem newAr_wa {cs}:newAr s cs=wa s (upd s.arr s.nxt (some cs)) (s.nxt+1):=(rfl)
end
def Gs (b0:Nat) (A:Nat→Option (List AV)) (N:Nat) (el:El) (v:AV) (n:Nat) (cs:List AV):Prop :=
 (v=.nsl∧n=0∧cs=[])∨∃ a,b0≤a∧a<N∧v=.os a el n∧A a=some cs∧cs.length=n*el.size
theorem upd_same {f a v}:upd f a v a=v:=by unfold upd;rw[if_pos rfl]
theorem upd_other {f a v i} (h:i≠a):upd f a v i=f i:=by unfold upd;rw[if_neg h]
theorem Gs.app {b0 s el v n cs k cy} (h:Gs b0 s.arr s.nxt el v n cs) (hb:b0≤s.nxt) (hk:0<k) (hl:cy.length=k*el.size) (hlow:AV.lowL 0 cy=true) (hm:n+k≤most) :
  ∃ a A N,agrow s el k cy v=some (.os a el (n+k),wa s A N)∧Gs b0 A N el (.os a el (n+k)) (n+k) (cs++cy)∧s.nxt≤N∧∀ i,i<b0→A i=s.arr i:=by
 rcases h with ⟨rfl,rfl,rfl⟩|⟨a,h1,h2,rfl,h3,h4⟩
 ·refine⟨s.nxt,upd s.arr s.nxt (some cy),s.nxt+1,?_,.inr ⟨s.nxt,hb,Nat.lt_succ_self _,rfl,upd_same,by simpa using hl⟩,Nat.le_succ _,fun i hi=>upd_other (by omega)⟩
  show (if k=0 then _ else if k≤most∧AV.lowL 0 cy=true then _ else _)=_
  rw[if_neg (by omega),if_pos ⟨by omega,hlow⟩,Nat.zero_add]
  rfl
 ·refine⟨s.nxt,upd (upd s.arr a none) s.nxt (some (cs++cy)),s.nxt+1,?_,.inr ⟨s.nxt,hb,Nat.lt_succ_self _,rfl,upd_same,by rw[List.length_append,h4,hl,Nat.add_mul]⟩,Nat.le_succ _,fun i hi=>by rw[upd_other (by omega),upd_other (by omega)]⟩
  unfold agrow
  dsimp only
  rw[h3]
  dsimp only
  rw[if_pos ⟨rfl,by omega,hm,hlow⟩,List.take_of_length_le (by omega)]
  rfl
theorem Gs.one {b0 s el v n cs cy} (h:Gs b0 s.arr s.nxt el v n cs) (hb:b0≤s.nxt) (hl:cy.length=el.size) (hlow:AV.lowL 0 cy=true) (hm:n+1≤most) :
  ∃ a A N,((flat el (.os s.nxt el 1) (newAr s cy)).bind fun p=>(frzAllIf false p.2 (newAr s cy)).bind fun q=>agrow q.2 el p.1 q.1 v)=some (.os a el (n+1),wa s A N)∧Gs b0 A N el (.os a el (n+1)) (n+1) (cs++cy)∧s.nxt≤N∧∀ i,i<b0→A i=s.arr i:=by
 have h':Gs b0 (newAr s cy).arr (newAr s cy).nxt el v n cs:=by
  rcases h with h|⟨a,h1,h2,h3,h4,h5⟩
  ·exact .inl h
  ·exact .inr ⟨a,h1,Nat.lt_succ_of_lt h2,h3,by show upd s.arr s.nxt (some cy) a=_;rw[upd_other (by omega)];exact h4,h5⟩
 obtain⟨a,A,N,k1,k2,k3,k4⟩:=h'.app (Nat.le_succ_of_le hb) (k:=1) (cy:=cy) (by omega) (by rw[hl,Nat.one_mul]) hlow hm
 refine⟨a,A,N,?_,k2,Nat.le_trans (Nat.le_succ _) k3,fun i hi=>(k4 i hi).trans (by show upd s.arr s.nxt (some cy) i=_;rw[upd_other (by omega)])⟩
 have hf:flat el (.os s.nxt el 1) (newAr s cy)=some (1,cy):=by
  unfold flat
  dsimp only
  have:(newAr s cy).arr s.nxt=some cy:=upd_same
  rw[this]
  dsimp only
  rw[if_pos ⟨by rw[hl,Nat.one_mul];exact Nat.le_refl _,rfl⟩,List.take_of_length_le (by rw[hl,Nat.one_mul];exact Nat.le_refl _)]
 rw[hf]
 show agrow (newAr s cy) el 1 cy v=_
 rw[k1]
 rfl
def lst (el:El):List AV→AV
 | []=>.nsl
 | x::xs=>.sl el (x::xs)
theorem lst_fin {el xs} (h:AV.finL xs=true):AV.fin (lst el xs)=true:=by cases xs with
 | nil=>rfl
 | cons x xs=>exact h
theorem len_lst {el xs}:alen false (lst el xs)=some (.i .i64 (xs.length:Nat)):=by cases xs<;>rfl
def Elem (el:El) (x:AV):Prop:=x.fin=true∧x.cells.length=el.size∧∀ l,el.get (x.cells++l) 0=some x
theorem elem_st {n cs} (h:cs.length=n) (hf:AV.finL cs=true):Elem (.st n) (.agg cs):=by
 subst h
 refine⟨hf,rfl,fun l=>?_⟩
 show (if 0+cs.length≤(cs++l).length then some (AV.agg (((cs++l).drop 0).take cs.length)) else none)=_
 rw[if_pos (by simp)]
 simp
theorem elem_one {x:AV} (h:x.cells=[x]) (hf:x.fin=true):Elem .one x:=by
 refine⟨hf,by rw[h];rfl,fun l=>?_⟩
 rw[h]
 rfl
theorem chunk_flat {el:El}:∀ (xs:List AV) (l:List AV),(∀ x∈xs,Elem el x)→chunk el xs.length (xs.flatMap AV.cells++l)=some xs
 | [],l,_=>rfl
 | x::xs,l,h=>by
  obtain⟨h1,h2,h3⟩:=h x (List.mem_cons_self ..)
  rw[List.length_cons,chunk,List.flatMap_cons,List.append_assoc,h3]
  dsimp only
  rw[if_pos h1,List.drop_append_of_le_length (by omega),List.drop_of_length_le (by omega),List.nil_append,chunk_flat xs l (fun y hy=>h y (List.mem_cons_of_mem _ hy))]
  rfl
def AV.scal:AV→Bool
 | .b _|.i _ _|.s _|.nsl|.np|.nf|.nm=>true
 | .sl _ xs=>AV.finL xs
 | _=>false
theorem scal_frz {x:AV} (h:x.scal=true) (n:Nat) (s:St):frz (n+1) x s=some (x,s):=by
 cases x<;>first|rfl|cases h
theorem scal_fin {x:AV} (h:x.scal=true):x.fin=true:=by cases x<;>first|rfl|exact h|cases h
theorem scals_frz {n s}:∀ {xs:List AV},xs.all AV.scal=true→frzAll (frz (n+1)) xs s=some (xs,s)
 | [],_=>rfl
 | x::xs,h=>by
  rw[List.all_cons,Bool.and_eq_true] at h
  rw[frzAll,scal_frz h.1]
  dsimp only
  rw[scals_frz h.2]
theorem scals_fin:∀ {xs:List AV},xs.all AV.scal=true→AV.finL xs=true
 | [],_=>rfl
 | x::xs,h=>by
  rw[List.all_cons,Bool.and_eq_true] at h
  unfold AV.finL
  rw[Bool.and_eq_true]
  exact⟨scal_fin h.1,scals_fin h.2⟩
theorem scal_low {x:AV} (h:x.scal=true):x.low 0=true:=by cases x<;>first|rfl|cases h
theorem scals_low:∀ {xs:List AV},xs.all AV.scal=true→AV.lowL 0 xs=true
 | [],_=>rfl
 | x::xs,h=>by
  rw[List.all_cons,Bool.and_eq_true] at h
  unfold AV.lowL
  rw[Bool.and_eq_true]
  exact⟨scal_low h.1,scals_low h.2⟩
structure Ele (el:El) (x:AV):Prop where
 elem:Elem el x
 scal:x.cells.all AV.scal=true
theorem ele_st {n cs} (h:cs.length=n) (hs:cs.all AV.scal=true):Ele (.st n) (.agg cs):=⟨elem_st h (scals_fin hs),hs⟩
theorem ele_one {x:AV} (hs:x.scal=true):Ele .one x:=by
 have hc:x.cells=[x]:=by cases x<;>first|rfl|cases hs
 exact⟨elem_one hc (scal_fin hs),by rw[hc];simp[hs]⟩
theorem flat_len {el:El}:∀ {xs:List AV},(∀ x∈xs,Ele el x)→(xs.flatMap AV.cells).length=xs.length*el.size
 | [],_=>by simp
 | x::xs,h=>by
  rw[List.flatMap_cons,List.length_append,(h x (List.mem_cons_self ..)).elem.2.1,flat_len (fun y hy=>h y (List.mem_cons_of_mem _ hy)),List.length_cons,Nat.add_mul]
  omega
theorem flat_scal {el:El}:∀ {xs:List AV},(∀ x∈xs,Ele el x)→(xs.flatMap AV.cells).all AV.scal=true
 | [],_=>rfl
 | x::xs,h=>by
  rw[List.flatMap_cons,List.all_append,(h x (List.mem_cons_self ..)).scal,flat_scal (fun y hy=>h y (List.mem_cons_of_mem _ hy))]
  rfl
def Gl (b0:Nat) (A:Nat→Option (List AV)) (N:Nat) (el:El) (v:AV) (xs:List AV):Prop:=Gs b0 A N el v xs.length (xs.flatMap AV.cells)∧(xs=[]→v=.nsl)∧∀ x∈xs,Ele el x
theorem Gl.nil {b0 A N el}:Gl b0 A N el .nsl []:=⟨.inl ⟨rfl,rfl,rfl⟩,fun _=>rfl,fun x hx=>by cases hx⟩
theorem Gl.len {b0 A N el v xs} (h:Gl b0 A N el v xs):alen false v=some (.i .i64 (xs.length:Nat)):=by
 obtain⟨h1|⟨a,-,-,rfl,-,-⟩,-,-⟩:=h
 ·obtain⟨rfl,h2,-⟩:=h1;rw[h2];rfl
 ·rfl
theorem Gl.one {b0 s el v xs y} (h:Gl b0 s.arr s.nxt el v xs) (hb:b0≤s.nxt) (hy:Ele el y) (hm:xs.length+1≤most) :
  ∃ w A N,((flat el (.os s.nxt el 1) (newAr s y.cells)).bind fun p=>(frzAllIf false p.2 (newAr s y.cells)).bind fun q=>agrow q.2 el p.1 q.1 v)=some (w,wa s A N)∧Gl b0 A N el w (xs++[y])∧s.nxt≤N∧∀ i,i<b0→A i=s.arr i:=by
 obtain⟨h1,h2,h3⟩:=h
 obtain⟨a,A,N,k1,k2,k3,k4⟩:=h1.one hb hy.elem.2.1 (scals_low hy.scal) hm
 refine⟨_,A,N,k1,⟨?_,fun h=>by simp at h,fun x hx=>?_⟩,k3,k4⟩
 ·have:(xs++[y]).flatMap AV.cells=xs.flatMap AV.cells++y.cells:=by simp
  rw[this,List.length_append]
  exact k2
 ·rcases List.mem_append.1 hx with hx|hx
  ·exact h3 x hx
  ·rw[List.mem_singleton.1 hx];exact hy
theorem Gl.grow {b0 s el v xs y} (cy:List AV) (hcy:y.cells=cy) (h:Gl b0 s.arr s.nxt el v xs) (hb:b0≤s.nxt) (hy:Ele el y) (hm:xs.length+1≤most) :
  ∃ w A N,agrow (newAr s cy) el 1 cy v=some (w,wa s A N)∧Gl b0 A N el w (xs++[y])∧s.nxt≤N∧∀ i,i<b0→A i=s.arr i:=by
 obtain⟨w,A,N,k1,k⟩:=h.one hb hy hm
 refine⟨w,A,N,?_,k⟩
 rw[hcy,flat_new rfl (by rw[←hcy];exact hy.elem.2.1)] at k1
 exact k1
theorem Gl.frz {b0 s el v xs n} (h:Gl b0 s.arr s.nxt el v xs):∃ A,Am.frz (n+2) v s=some (lst el xs,wa s A s.nxt)∧∀ i,i<b0→A i=s.arr i:=by
 obtain⟨h1,h2,h3⟩:=h
 cases xs with
 | nil=>rw[h2 rfl];exact⟨s.arr,rfl,fun _ _=>rfl⟩
 | cons x xs =>
  rcases h1 with ⟨-,h,-⟩|⟨a,g1,g2,rfl,g3,g4⟩
  ·simp at h
  ·refine⟨upd s.arr a none,?_,fun i hi=>upd_other (by omega)⟩
   have hl:=flat_len h3
   have hch:=chunk_flat (x::xs) [] (fun y hy=>(h3 y hy).elem)
   rw[List.append_nil] at hch
   rw[Am.frz,g3]
   dsimp only
   rw[List.take_of_length_le (by omega),scals_frz (flat_scal h3)]
   dsimp only
   rw[hch]
   rfl
theorem Gl.low {b0 A N el v xs n} (h:Gl b0 A N el v xs):v.low n=true:=by
 obtain⟨h1|⟨a,-,-,rfl,-,-⟩,-,-⟩:=h
 ·rw[h1.1];rfl
 ·rfl
attribute [go_sem] wa_arr wa_nxt wa_wa wa_obj wa_cnt wa_set wa_new wa_cut wa_tk set_arr set_nxt new_arr new_nxt
end Go.Am
namespace Go.Am
open Go
attribute [go_sem] skip_eq
structure Fault where
 err:Int
 line:Nat
 col:Nat
def Fault.av (f:Fault):AV:=.agg [.i .i64 f.err,.i .i64 f.line,.i .i64 f.col]
def tokensN:Nat→RS→List Tok→Except Fault (List Tok)
 | 0,r,l=>.ok l
 | n+1,r,l =>
  let q:=r.skip
  if q.i<q.src.length then
   let p:=q.next
   let e:=if p.1.2==0&&decide ((l.length:Int)≥2048) then 2 else p.1.2
   if e != 0 then .error ⟨e,q.line,q.col⟩ else tokensN n p.2 (l++[p.1.1])
  else .ok l
theorem tok_ele (t:Tok):Ele (.st 6) t.av:=ele_st rfl rfl
theorem next_ok {r:RS} (ok:r.ok) (hi:r.i<r.src.length) (he:r.next.1.2=0):r.next.2.ok∧r.next.2.src=r.src∧r.i<r.next.2.i:=by
 obtain⟨o1,o2,o3,o4⟩:=id ok
 have hj:=runOf_le (fun d:UInt8=>goesOn (classOf (r.src[r.i].toNat:Int)) d.toNat) (r.src.drop (r.i+1))
 rw[List.length_drop] at hj
 have key:r.next.2=r∨r.next.2=r.fwd (runOf (fun d:UInt8=>goesOn (classOf (r.src[r.i].toNat:Int)) d.toNat) (r.src.drop (r.i+1))+1):=by
  unfold RS.next
  rw[List.getElem?_eq_getElem hi]
  dsimp only
  repeat' split
  all_goals first|exact .inl rfl|exact .inr rfl
 have hne:r.next.2=r→False:=by
  intro h
  revert he h
  unfold RS.next
  rw[List.getElem?_eq_getElem hi]
  dsimp only
  have hf:∀ k,(r.fwd (k+1))=r→False:=fun k h=>by have:=congrArg RS.i h;simp[RS.fwd] at this
  repeat' split
  all_goals intro h h'
  all_goals first|exact hf _ h'|cases h
 rcases key with h|h
 ·exact absurd h hne
 ·rw[h]
  exact⟨⟨o1,by show r.i+_≤r.src.length;omega,by show r.line≤r.i+_+1;omega,by show r.col+_≤r.i+_+1;omega⟩,rfl,by show r.i<r.i+_;omega⟩
def TokEnd (b0:Nat) (s:St) (k f:Nat) (res:Except Fault (List Tok)) (q:Ex × Env × St):Prop :=
 ∃ e A N r',(∀ i,i<b0→A i=s.arr i)∧b0≤N∧get e 3=some (.ref f 0) ∧
  match res with
  | .ok l=>∃ v,q=(.exit 0,e,wa (setOb s k r') A N)∧get e 6=some v∧Gl b0 A N (.st 6) v (l.map Tok.av)
  | .error g=>q=(.ret,e,wa (setOb (setOb s k r') f (.cells [.i .i64 g.err,.i .i64 g.line,.i .i64 g.col])) A N)∧get e 2=some .nsl
theorem tokens_loop:∀ (n:Nat) (r:RS) (l:List Tok) (s:St) (bs k f:Nat) (v:AV) (b0:Nat),r.ok→obj s k=some r.ob→r.src.length - r.i<n→l.length≤2048→k≠f→f<cnt s→b0≤s.nxt →
  obj s f=some (.cells [.i .i64 0,.i .i64 0,.i .i64 0]) →
  Gl b0 s.arr s.nxt (.st 6) v (l.map Tok.av) →
  W (E F0 X0 bs l27_0 [(3,.ref f 0),(5,.ref k 0),(6,v)] s) (TokEnd b0 s k f (tokensN n r l)):=by
 intro n
 induction n with
 | zero=>intro r l s bs k f v b0 ok ho hn;omega
 | succ n ih =>
  intro r l s bs k f v b0 ok ho hn hl hkf hf hb hof hG
  have hk:=obj_lt ho
  obtain⟨ok2,hsrc,hmono⟩:=skipN_ok (r.src.length - r.i) ok
  rw[w_lp (L:=l27_0) rfl]
  simp only[go_sem,reduceCtorEq,↓reduceIte,nA,nB,nC,nD,nE,iA,iB,iC,iD,iE,iF,skip_eq r s k ok ho,hk,hf]
  refine W.ifc (fun h=>?_) (fun h=>?_)
  ·have hi:r.skip.i<r.skip.src.length:=by simp at h;rw[show r.skip.src=r.src from hsrc];omega
   have ho2:obj (setOb s k r.skip.ob) k=some (.cells [.s r.skip.src,.i .i64 r.skip.i,.i .i64 r.skip.line,.i .i64 r.skip.col]):=obj_set hk
   have hk1:k<cnt s+1:=by omega
   have ho3:obj (newOb (setOb s k r.skip.ob) (.cells [.i .i64 r.skip.line,.i .i64 r.skip.col])) k=some r.skip.ob:=by rw[obj_new' (by rw[cnt_set];exact hk)];exact obj_set hk
   have hN:tokensN (n+1) r l=(if (if r.skip.next.1.2==0&&decide ((l.length:Int)≥2048) then 2 else r.skip.next.1.2) != 0 then .error ⟨(if r.skip.next.1.2==0&&decide ((l.length:Int)≥2048) then 2 else r.skip.next.1.2),r.skip.line,r.skip.col⟩ else tokensN n r.skip.next.2 (l++[r.skip.next.1.1])):=by
    rw[tokensN]
    dsimp only
    rw[if_pos hi]
   rw[hN]
   have hlen:=hG.len
   rw[List.length_map] at hlen
   have hlo:=fun n=>hG.low (n:=n)
   have fl:decide (f<cnt s)=true:=decide_eq_true hf
   have kl:decide (k<cnt s)=true:=decide_eq_true hk
   have hf1:f<cnt s+1:=by omega
   have hf2:=obj_set' (s:=s) (o:=r.skip.next.2.ob) hkf
   simp only[go_sem,reduceCtorEq,↓reduceIte,nA,nB,nC,nD,nE,iA,iB,iC,iD,iE,iF,h,ho2,hk,hk1,next_eq r.skip _ k ok2 ho3 hi,Tok.av,hlen]
   refine W.ifc (fun h1=>?_) (fun h1=>?_)
   ·have h1':(r.skip.next.1.2 != 0)=false:=by simpa[bne] using h1
    simp only[go_sem,reduceCtorEq,↓reduceIte,nA,nB,nC,nD,nE,iA,iB,iC,iD,iE,iF,h1,hk,hk1,hlen]
    refine W.ifc (fun h2=>?_) (fun h2=>?_)
    ·simp only[go_sem,reduceCtorEq,↓reduceIte,nA,nB,nC,nD,nE,iA,iB,iC,iD,iE,iF,h2,hk,hk1,hf,hf1,hf2,hof,h1,fl,kl,hlo,Bool.and_self]
     exact⟨_,s.arr,s.nxt,_,fun _ _=>rfl,hb,rfl,rfl,rfl⟩
    ·simp only[go_sem,reduceCtorEq,↓reduceIte,nA,nB,nC,nD,nE,iA,iB,iC,iD,iE,iF,h2,h1',hk,hk1,hf,hf1,hf2,hof,h1,fl,kl,hlo,Bool.and_false,Bool.and_self]
     obtain⟨w,A,N,g1,g2,g3,g4⟩:=Gl.grow (s:=newOb (newOb (setOb s k r.skip.next.2.ob) (.cells [.i .i64 r.skip.line,.i .i64 r.skip.col])) (.cells [.i .i64 r.skip.next.1.1.kind,.s r.skip.next.1.1.text,.i .i64 r.skip.next.1.1.n,.i .i64 r.skip.next.1.1.line,.i .i64 r.skip.next.1.1.col,.b r.skip.next.1.1.made])) _ rfl hG hb (tok_ele r.skip.next.1.1) (by simp at h2 ⊢;unfold most;omega)
     simp only[Tok.av,AV.cells] at g1
     simp only[go_sem,reduceCtorEq,↓reduceIte,nA,nB,nC,nD,nE,iA,iB,iC,iD,iE,iF,g1,g2.low,fl,kl,Bool.and_self]
     have he:r.skip.next.1.2=0:=by simpa using h1
     obtain⟨n1,n2,n3⟩:=next_ok (r:=r.skip) ok2 hi he
     have h0k:r.skip.i<r.skip.next.2.i:=n3
     have hrs:r.skip.next.2.src.length=r.src.length:=(congrArg List.length n2).trans (congrArg List.length hsrc)
     have hsi:r.i≤r.skip.i:=hmono
     have hi2:r.skip.i<r.src.length:=by have:=congrArg List.length hsrc;have h3:r.skip.src.length=r.src.length:=this;omega
     have g5:s.nxt≤N:=g3
     have g6:∀ i,i<b0→A i=s.arr i:=g4
     refine W.mono (ih r.skip.next.2 (l++[r.skip.next.1.1]) (wa (setOb s k r.skip.next.2.ob) A N) bs k f w b0 n1 (by rw[wa_obj];exact obj_set hk) (by omega) (by simp at h2 ⊢;omega) hkf (by rw[wa_cnt,cnt_set];exact hf) (Nat.le_trans hb g5) (by rw[wa_obj,hf2,hof]) (by rw[List.map_append];exact g2)) ?_
     rintro q ⟨e,A2,N2,r2,k1,k2,k3,k4⟩
     refine⟨e,A2,N2,r2,fun i hi=>(k1 i hi).trans (g6 i hi),k2,k3,?_⟩
     revert k4
     cases tokensN n r.skip.next.2 (l++[r.skip.next.1.1]) with
     | ok l2 =>
      rintro⟨v2,rfl,m1,m2⟩
      exact⟨v2,by rw[wa_set,wa_wa,set_set],m1,m2⟩
     | error g =>
      rintro⟨rfl,m1⟩
      exact⟨by rw[wa_set,wa_set,wa_wa,set_set],m1⟩
   ·have h1':(r.skip.next.1.2 != 0)=true:=by simpa[bne] using h1
    simp only[go_sem,reduceCtorEq,↓reduceIte,nA,nB,nC,nD,nE,iA,iB,iC,iD,iE,iF,h1,h1',hk,hk1,hf,hf1,hf2,hof,fl,kl,hlo,Bool.and_self,Bool.false_and]
    exact⟨_,s.arr,s.nxt,_,fun _ _=>rfl,hb,rfl,rfl,rfl⟩
  ·have hN:tokensN (n+1) r l=.ok l:=by
    rw[tokensN]
    dsimp only
    rw[if_neg (by rw[show r.skip.src=r.src from hsrc];simp at h;omega)]
   rw[hN]
   have hlo:=fun n=>hG.low (n:=n)
   have fl:decide (f<cnt s)=true:=decide_eq_true hf
   have kl:decide (k<cnt s)=true:=decide_eq_true hk
   simp only[go_sem,reduceCtorEq,↓reduceIte,nA,nB,nC,nD,nE,iA,iB,iC,iD,iE,iF,h,hlo,fl,kl,Bool.and_self]
   exact⟨_,s.arr,s.nxt,_,fun _ _=>rfl,hb,rfl,v,rfl,rfl,hG⟩
end Go.Am
namespace Go.Am
open Go
def ex (s:St) (l:List Ob):St:={ s with objs:=s.objs++l }
section
variable {s:St} {l:List Ob} {A:Nat→Option (List AV)} {N:Nat}
theorem new_ex0 {o}:newOb s o=ex s [o]:=(rfl)
theorem new_ex {o}:newOb (ex s l) o=ex s (l++[o]):=by unfold newOb ex;simp
theorem ex_ex {m}:ex (ex s l) m=ex s (l++m):=by unfold ex;simp
theorem ex_nil:ex s []=s:=by unfold ex;simp
theorem ex_cnt:cnt (ex s l)=cnt s+l.length:=by unfold cnt ex;simp
theorem ex_obj0:obj (ex s l) (cnt s)=l[0]?:=by unfold obj ex cnt;rw[List.getElem?_append_right (Nat.le_refl _),Nat.sub_self]
theorem ex_obj {i}:obj (ex s l) (cnt s+i)=l[i]?:=by unfold obj ex cnt;rw[List.getElem?_append_right (by omega)];congr 1;omega
theorem ex_obj0' {n} (h:cnt s=n):obj (ex s l) n=l[0]?:=by subst h;exact ex_obj0
theorem ex_obj' {n i} (h:cnt s=n):obj (ex s l) (n+i)=l[i]?:=by subst h;exact ex_obj
theorem ex_old {r} (h:r<cnt s):obj (ex s l) r=obj s r:=List.getElem?_append_left h
theorem ex_set0 {o}:setOb (ex s l) (cnt s) o=ex s (l.set 0 o):=by unfold setOb ex cnt;simp[List.set_append_right]
theorem ex_set {i o}:setOb (ex s l) (cnt s+i) o=ex s (l.set i o):=by unfold setOb ex cnt;simp[List.set_append_right]
theorem ex_set0' {n o} (h:cnt s=n):setOb (ex s l) n o=ex s (l.set 0 o):=by subst h;exact ex_set0
theorem ex_set' {n i o} (h:cnt s=n):setOb (ex s l) (n+i) o=ex s (l.set i o):=by subst h;exact ex_set
theorem ex_sets {r o} (h:r<cnt s):setOb (ex s l) r o=ex (setOb s r o) l:=by
 unfold setOb ex
 have:(s.objs++l).set r o=s.objs.set r o++l:=List.set_append_left _ _ h
 rw[this]
theorem ex_cut {v} (h:v.low (cnt s)=true):cut (cnt s) v (ex s l)=s:=by
 rw[cut_low h];unfold ex cnt;simp
theorem ex_cut' {v n} (hn:cnt s=n) (h:v.low n=true):cut n v (ex s l)=s:=by subst hn;exact ex_cut h
theorem ex_tk:tk (cnt s) (ex s l)=s:=by unfold tk ex cnt;simp
theorem ex_tk' {n} (h:cnt s=n):tk n (ex s l)=s:=by subst h;exact ex_tk
theorem ex_tki {i}:tk (cnt s+i) (ex s l)=ex s (l.take i):=by unfold tk ex cnt;simp[List.take_append];exact List.take_of_length_le (by omega)
theorem ex_tki' {i n} (h:cnt s=n):tk (n+i) (ex s l)=ex s (l.take i):=by subst h;exact ex_tki
theorem tk_id:tk (cnt s) s=s:=by unfold tk cnt;simp
theorem tk_id' {n} (h:cnt s=n):tk n s=s:=by subst h;exact tk_id
theorem cut_id' {n v} (h:cnt s=n):cut n v s=s:=cut_id h.symm
theorem ex_arr:(ex s l).arr=s.arr:=(rfl)
theorem ex_nxt:(ex s l).nxt=s.nxt:=(rfl)
theorem ex_wa:ex (wa s A N) l=wa (ex s l) A N:=(rfl)
theorem ex_newAr {cs}:ex (newAr s cs) l=newAr (ex s l) cs:=(rfl)
theorem newAr_wa' {cs}:newAr s cs=wa s (upd s.arr s.nxt (some cs)) (s.nxt+1):=(rfl)
theorem wa_self:wa s s.arr s.nxt=s:=(rfl)
theorem cnt_obs:s.objs.length=cnt s:=(rfl)
theorem lt_exl {k m} (h:k<cnt s):(k<cnt s+m)=True:=eq_true (by omega)
theorem lt_ex0 {m:Nat}:(cnt s<cnt s+m)=(0<m):=propext (by omega)
theorem lt_ex {i m:Nat}:(cnt s+i<cnt s+m)=(i<m):=propext (by omega)
theorem lt_exr {i:Nat}:(cnt s+i<cnt s)=False:=eq_false (by omega)
theorem eq_ex {i:Nat}:(cnt s+i=cnt s)=(i=0):=propext (by omega)
theorem eq_ex' {i:Nat}:(cnt s=cnt s+i)=(i=0):=propext (by omega)
theorem add_ex {i j:Nat}:cnt s+i+j=cnt s+(i+j):=by omega
end
def Old (n:Nat) (A B:Nat→Option (List AV)):Prop:=∀ a,a<n→A a=B a
theorem Old.refl {n A}:Old n A A:=fun _ _=>rfl
theorem Old.trans {n A B C} (h:Old n A B) (k:Old n B C):Old n A C:=fun a ha=>(h a ha).trans (k a ha)
theorem back_wa {s v A N} (h:Old s.nxt A s.arr) (hv:v.alow s.nxt=true):back s v (wa s A N)=s :=
 back_clean (v:=v) (s2:=wa s A N) ⟨h,hv,fun r o ho=>.inl ho⟩
theorem back_was {s v A N k cs} (h:Old s.nxt A s.arr) (hv:v.alow s.nxt=true) (hc:AV.alowL s.nxt cs=true):back s v (wa (setOb s k (.cells cs)) A N)=setOb s k (.cells cs):=by
 refine back_clean (v:=v) (s2:=wa (setOb s k (.cells cs)) A N) ⟨h,hv,fun r o ho=>?_⟩
 by_cases hr:r=k
 ·subst hr
  replace ho:(s.objs.set r (.cells cs))[r]?=some o:=ho
  have hl:r<s.objs.length:=by have:=(List.getElem?_eq_some_iff.1 ho).1;rw[List.length_set] at this;exact this
  rw[List.getElem?_set_self hl] at ho
  injection ho with ho
  subst ho
  exact .inr hc
 ·replace ho:(s.objs.set k (.cells cs))[r]?=some o:=ho
  rw[List.getElem?_set_ne (fun h=>hr h.symm)] at ho
  exact .inl ho
section
variable {el:El} {xs:List AV}
theorem lst_low {n}:(lst el xs).low n=true:=by cases xs<;>rfl
theorem lst_alow {n}:(lst el xs).alow n=true:=by cases xs<;>rfl
theorem lst_cells:(lst el xs).cells=[lst el xs]:=by cases xs<;>rfl
theorem lst_frz {n s}:frz (n+1) (lst el xs) s=some (lst el xs,s):=by cases xs<;>rfl
theorem lst_scal (h:AV.finL xs=true):(lst el xs).scal=true:=by cases xs with
 | nil=>rfl
 | cons x xs=>exact h
theorem lst_flat {s}:flat el (lst el xs) s=some (xs.length,xs.flatMap AV.cells):=by
 cases xs with
 | nil=>rfl
 | cons x xs=>show (if _ then _ else _)=_;rw[if_pos rfl]
theorem lst_iad {el' k} {i:Nat} {x} (he:el.size=el'.size) (h:xs[i]?=some x):aiad el' (lst el xs) (.i k (i:Int))=some (.ep x.cells 0):=by
 cases xs with
 | nil=>cases h
 | cons y ys =>
  show (if 0≤(i:Int)∧el.size=el'.size then ((y::ys)[(i:Int).toNat]?).map _ else none)=_
  rw[if_pos ⟨Int.natCast_nonneg i,he⟩,Int.toNat_natCast,h]
  rfl
theorem elem_ld {s x} (h:Elem el x):aload s el (.ep x.cells 0)=some x:=by
 have:=h.2.2 []
 rw[List.append_nil] at this
 exact this
theorem lst_nil:lst el []=.nsl:=(rfl)
theorem lst_cons {x}:lst el (x::xs)=.sl el (x::xs):=(rfl)
end
theorem alow_b {n:Nat} {b:Bool}:AV.alow n (.b b)=true:=(rfl)
theorem alow_i {n:Nat} {k:IntKind} {m:Int}:AV.alow n (.i k m)=true:=(rfl)
theorem alow_s {n:Nat} {t:List UInt8}:AV.alow n (.s t)=true:=(rfl)
theorem alow_nsl {n:Nat}  : AV.alow n (.nsl)=true:=(rfl)
theorem alow_np {n:Nat}  : AV.alow n (.np)=true:=(rfl)
theorem alow_nf {n:Nat}  : AV.alow n (.nf)=true:=(rfl)
theorem alow_nm {n:Nat}  : AV.alow n (.nm)=true:=(rfl)
theorem alow_sl {n:Nat} {el:El} {xs:List AV}:AV.alow n (.sl el xs)=true:=(rfl)
theorem alow_un {n:Nat}  : AV.alow n (.un)=true:=(rfl)
theorem alow_ref {n:Nat} {r o:Nat}:AV.alow n (.ref r o)=true:=(rfl)
theorem alow_os {n a r:Nat} {el:El}:AV.alow n (.os a el r)=decide (a<n):=(rfl)
theorem alow_aref {n a r:Nat}:AV.alow n (.aref a r)=decide (a<n):=(rfl)
theorem alow_agg {n cs}:AV.alow n (.agg cs)=AV.alowL n cs:=(rfl)
theorem alow_tup {n cs}:AV.alow n (.tup cs)=AV.alowL n cs:=(rfl)
theorem alow_clo {n f cs}:AV.alow n (.clo f cs)=AV.alowL n cs:=(rfl)
theorem alow_mp {n r}:AV.alow n (.mp r)=true:=(rfl)
theorem alowL_nil {n}:AV.alowL n []=true:=(rfl)
theorem alowL_cons {n x xs}:AV.alowL n (x::xs)=(AV.alow n x&&AV.alowL n xs):=(rfl)
attribute [go_sem] alow_os alow_aref alow_agg alow_tup alow_clo alow_mp alowL_nil alowL_cons alow_b alow_i alow_s alow_nsl alow_np alow_nf alow_nm alow_sl alow_un alow_ref
section
variable {n:Nat} {s:St}
theorem frz_i {k m}:frz (n+1) (.i k m) s=some (.i k m,s):=(rfl)
theorem frz_b {b}:frz (n+1) (.b b) s=some (.b b,s):=(rfl)
theorem frz_s {t}:frz (n+1) (.s t) s=some (.s t,s):=(rfl)
theorem frz_nsl:frz (n+1) .nsl s=some (.nsl,s):=(rfl)
theorem frz_np:frz (n+1) .np s=some (.np,s):=(rfl)
theorem frz_ref {r o}:frz (n+1) (.ref r o) s=some (.ref r o,s):=(rfl)
theorem frz_sl {el xs}:frz (n+1) (.sl el xs) s=some (.sl el xs,s):=(rfl)
theorem frz_agg {cs}:frz (n+1) (.agg cs) s=(frzAll (frz n) cs s).bind fun p=>some (.agg p.1,p.2):=by
 show Option.map _ _=_;cases frzAll (frz n) cs s<;>rfl
theorem frz_tup {cs}:frz (n+1) (.tup cs) s=(frzAll (frz n) cs s).bind fun p=>some (.tup p.1,p.2):=by
 show Option.map _ _=_;cases frzAll (frz n) cs s<;>rfl
theorem frzAll_nil {f:AV→St→Option (AV × St)}:frzAll f [] s=some ([],s):=(rfl)
theorem frzAll_cons {f:AV→St→Option (AV × St)} {x xs}:frzAll f (x::xs) s=(f x s).bind fun p=>(frzAll f xs p.2).bind fun q=>some (p.1::q.1,q.2):=by
 show (match f x s with|some (y,s1)=>(match frzAll f xs s1 with|some (ys,s2)=>some (y::ys,s2)|none=>none)|none=>none)=_
 cases f x s with
 | none=>rfl
 | some p=>obtain⟨y,s1⟩:=p;dsimp only[Option.bind_some];cases frzAll f xs s1<;>rfl
theorem frz_new {el k cs ys} (hc:cs.all AV.scal=true) (hl:cs.length=k*el.size) (hy:chunk el k cs=some ys):frz (n+2) (.os s.nxt el k) (newAr s cs)=some (.sl el ys,wa s (upd (newAr s cs).arr s.nxt none) (s.nxt+1)):=by
 rw[Am.frz]
 have:(newAr s cs).arr s.nxt=some cs:=upd_same
 rw[this]
 dsimp only
 rw[List.take_of_length_le (by omega),scals_frz hc]
 dsimp only
 rw[hy]
 rfl
end
theorem Gl.fin {b0 A N el v xs} (h:Gl b0 A N el v xs):∃ A',(∀ n s,Am.frz (n+2) v (wa s A N)=some (lst el xs,wa s A' N))∧Old b0 A' A:=by
 obtain⟨h1,h2,h3⟩:=h
 cases xs with
 | nil=>rw[h2 rfl];exact⟨A,fun _ _=>rfl,fun _ _=>rfl⟩
 | cons x xs =>
  rcases h1 with ⟨-,h,-⟩|⟨a,g1,g2,rfl,g3,g4⟩
  ·simp at h
  ·refine⟨upd A a none,fun n s=>?_,fun i hi=>upd_other (by omega)⟩
   have hl:=flat_len h3
   have hch:=chunk_flat (x::xs) [] (fun y hy=>(h3 y hy).elem)
   rw[List.append_nil] at hch
   rw[Am.frz]
   show (match A a with|some cs=>_|none=>_)=_
   rw[g3]
   dsimp only
   rw[List.take_of_length_le (by omega),scals_frz (flat_scal h3)]
   dsimp only
   rw[hch]
   rfl
section
variable {F:Nat→Option AFunc} {X:Nat→List AV→St→Option (AV × St)}
theorem W.range {bs L a} {Q:Ex × Env × St→Prop} (hL:L=.loop a) {n:Nat} (I:Nat→Env→St→Prop)
  (step:∀ i e s,I i e s→i<n→W (E F X bs a e s) fun r=>match r with|(.nrm,e',s')=>I (i+1) e' s'|r=>Q r)
  (last:∀ e s,I n e s→W (E F X bs a e s) fun r=>match r with|(.nrm,_,_)=>False|r=>Q r):∀ i e s,i≤n→I i e s→W (E F X bs L e s) Q:=by
 intro i e s hi h
 refine W.loop hL (fun k e s=>∃ i,i≤n∧k=n - i∧I i e s) ?_ (n - i) e s ⟨i,hi,rfl,h⟩
 rintro k e s ⟨i,hi,rfl,h⟩
 rcases Nat.lt_or_ge i n with hl|hl
 ·refine W.mono (step i e s h hl) ?_
  rintro⟨x,e',s'⟩ hr
  cases x with
  | nrm=>exact⟨n - (i+1),by omega,i+1,hl,rfl,hr⟩
  | exit j=>exact hr
  | ret=>exact hr
 ·have:i=n:=by omega
  subst this
  refine W.mono (last e s h) ?_
  rintro⟨x,e',s'⟩ hr
  cases x with
  | nrm=>exact hr.elim
  | exit j=>exact hr
  | ret=>exact hr
end
theorem Ele.agg {n x} (h:Ele (.st n) x):∃ cs,x=.agg cs∧cs.length=n:=by
 obtain⟨⟨h1,h2,h3⟩,-⟩:=h
 have:=h3 []
 rw[List.append_nil] at this
 replace this:(if 0+n≤x.cells.length then some (AV.agg ((x.cells.drop 0).take n)) else none)=some x:=this
 split at this
 ·injection this with this
  refine⟨_,this.symm,?_⟩
  rw[List.length_take,List.length_drop]
  replace h2:x.cells.length=n:=h2
  omega
 ·cases this
theorem Ele.onec {x} (h:Ele .one x):x.cells=[x]:=by
 obtain⟨⟨h1,h2,h3⟩,-⟩:=h
 replace h2:x.cells.length=1:=h2
 obtain⟨y,hy⟩:=List.length_eq_one_iff.1 h2
 have:=h3 []
 rw[hy] at this ⊢
 injection this with this
 rw[this]
theorem aeq4 {g a b c d a' b' c' d'}:aeq 4 g (.agg [.i .i64 a,.i .i64 b,.i .i64 c,.i .i64 d]) (.agg [.i .i64 a',.i .i64 b',.i .i64 c',.i .i64 d'])=some (.b (if g then !(a==a'&&(b==b'&&(c==c'&&d==d'))) else (a==a'&&(b==b'&&(c==c'&&d==d'))))):=by
 unfold aeq
 dsimp only
 rw[if_pos ⟨rfl,rfl,rfl,by decide⟩]
 by_cases h1:a=a'<;>by_cases h2:b=b'<;>by_cases h3:c=c'<;>by_cases h4:d=d'<;>cases g<;>simp[aeqs,h1,h2,h3,h4]
theorem aeq2 {g a b a' b'}:aeq 2 g (.agg [.i .i64 a,.i .i64 b]) (.agg [.i .i64 a',.i .i64 b'])=some (.b (if g then !(a==a'&&b==b') else (a==a'&&b==b'))):=by
 unfold aeq
 dsimp only
 rw[if_pos ⟨rfl,rfl,rfl,by decide⟩]
 by_cases h1:a=a'<;>by_cases h2:b=b'<;>cases g<;>simp[aeqs,h1,h2]
theorem iad_l0 {el k x xs}:aiad el (lst el (x::xs)) (.i k 0)=some (.ep x.cells 0):=lst_iad (i:=0) rfl rfl
theorem cast_0:((0:Nat):Int)=0:=(rfl)
theorem cast_1:((1:Nat):Int)=1:=(rfl)
theorem cast_2:((2:Nat):Int)=2:=(rfl)
theorem cast_3:((3:Nat):Int)=3:=(rfl)
theorem aeq_np {r o g}:aeq 0 g (.ref r o) .np=some (.b g):=(rfl)
theorem aeq_nn {g}:aeq 0 g .np .np=some (.b (!g)):=(rfl)
attribute [go_sem] aeq_np aeq_nn aeq4 aeq2 iad_l0 cast_0 cast_1 cast_2 cast_3
theorem wanted_none {e}:wanted none e=some true:=(rfl)
theorem wanted_some {t w e}:wanted (some (t,w)) e=(match get e t with|some (.b x)=>some (bq x w)|some .un=>some false|_=>none):=(rfl)
theorem still_load {e s s' d el x}:still e s s' d (.load el x)=(lev (.load el x) e s'=get e d):=(rfl)
theorem still_look {e s s' d z m k t}:still e s s' d (.look z m k t)=(lev (.look z m k t) e s'=get e d):=(rfl)
theorem lev_look {e s z m k t}:lev (.look z m k t) e s=(m.ev e).bind fun a=>(k.ev e).bind fun b=>alook s z t a b:=(rfl)
attribute [go_sem] wanted_none still_load still_look lev_look
theorem na_obj {s:St} {cs r}:obj (newAr s cs) r=obj s r:=(rfl)
theorem na_cnt {s:St} {cs}:cnt (newAr s cs)=cnt s:=(rfl)
theorem na_set {s:St} {cs r o}:setOb (newAr s cs) r o=newAr (setOb s r o) cs:=(rfl)
theorem wa_na {s:St} {cs A N}:wa (newAr s cs) A N=wa s A N:=(rfl)
theorem na_cut {s:St} {cs n v}:cut n v (newAr s cs)=newAr (cut n v s) cs:=by unfold cut;split<;>rfl
theorem na_tk {s:St} {cs n}:tk n (newAr s cs)=newAr (tk n s) cs:=(rfl)
theorem na_new {s:St} {cs o}:newOb (newAr s cs) o=newAr (newOb s o) cs:=(rfl)
attribute [go_sem] na_obj na_cnt na_set wa_na na_cut na_tk na_new
def fdk (z:AV) (t:Bool):Option AV→AV
 | some v=>if t then .tup [v,.b true] else v
 | none=>if t then .tup [z,.b false] else z
def lkk (z:AV) (t:Bool) (k:List UInt8):Option Ob→Option AV
 | some (.map es)=>some (fdk z t (findE k es))
 | _=>none
theorem lk_obj {s z t r k}:alook s z t (.mp r) (.s k)=lkk z t k (obj s r):=by
 unfold alook lkk obj
 dsimp only
 cases s.objs[r]? with
 | none=>rfl
 | some q =>
  cases q with
  | cells cs=>rfl
  | map es=>dsimp only;cases findE k es<;>rfl
theorem lkk_some {z t k es}:lkk z t k (some (.map es))=some (fdk z t (findE k es)):=(rfl)
theorem fdk_some {z v}:fdk z true (some v)=.tup [v,.b true]:=(rfl)
theorem fdk_none {z}:fdk z true none=.tup [z,.b false]:=(rfl)
def upk (s:St) (v:AV) (r:Nat) (k:List UInt8):Option Ob→Option (AV × St)
 | some (.map es)=>if v.fin then some (.un,setOb s r (.map (setE k v es))) else none
 | _=>none
theorem up_obj {s v r k}:aupd s v (.mp r) (.s k)=upk s v r k (obj s r):=by
 unfold aupd upk obj
 dsimp only
 cases s.objs[r]? with
 | none=>rfl
 | some q=>cases q<;>rfl
theorem upk_some {s v r k es}:upk s v r k (some (.map es))=if v.fin then some (.un,setOb s r (.map (setE k v es))) else none:=(rfl)
theorem fin_i {k m}:AV.fin (.i k m)=true:=(rfl)
theorem findE_nil {k}:findE k []=none:=(rfl)
theorem findE_all {P:AV→Prop} {k:List UInt8}:∀ {es:List (List UInt8 × AV)},(∀ e∈es,P e.2)→∀ {v},findE k es=some v→P v
 | [],_,_,h=>by cases h
 | (j,x)::es,hp,v,h=>by
  unfold findE at h
  split at h
  ·injection h with h;subst h;exact hp _ (List.mem_cons_self ..)
  ·exact findE_all (fun e he=>hp e (List.mem_cons_of_mem _ he)) h
theorem setE_all {P:AV→Prop} {k:List UInt8} {x:AV} (hx:P x):∀ {es:List (List UInt8 × AV)},(∀ e∈es,P e.2)→∀ e∈setE k x es,P e.2
 | [],_,e,h=>by rw[setE,List.mem_singleton] at h;subst h;exact hx
 | (j,y)::es,hp,e,h=>by
  unfold setE at h
  split at h
  ·rcases List.mem_cons.1 h with rfl|h
   ·exact hx
   ·exact hp e (List.mem_cons_of_mem _ h)
  ·rcases List.mem_cons.1 h with rfl|h
   ·exact hp _ (List.mem_cons_self ..)
   ·exact setE_all hx (fun e he=>hp e (List.mem_cons_of_mem _ he)) e h
attribute [go_sem] lk_obj lkk_some fdk_some fdk_none up_obj upk_some fin_i findE_nil
theorem cells_mp {r}:AV.cells (.mp r)=[.mp r]:=(rfl)
theorem cells_np:AV.cells .np=[.np]:=(rfl)
theorem cells_nm:AV.cells .nm=[.nm]:=(rfl)
theorem cells_nf:AV.cells .nf=[.nf]:=(rfl)
theorem cells_aref {r o}:AV.cells (.aref r o)=[.aref r o]:=(rfl)
theorem cells_ep {r o}:AV.cells (.ep r o)=[.ep r o]:=(rfl)
def stob (s s':St):Option AV→Prop
 | some v=>stillOb s s' v
 | none=>False
theorem stob_eq {e:Env} {s s':St} {d:Nat}:(∃ v,get e d=some v∧stillOb s s' v)=stob s s' (get e d):=by
 cases get e d with
 | none=>exact propext ⟨(fun ⟨v,h,_⟩=>nomatch h),fun h=>h.elim⟩
 | some w=>exact propext ⟨(fun ⟨v,h,k⟩=>(Option.some.inj h)▸k),fun h=>⟨w,rfl,h⟩⟩
theorem still_alloc {e s s' d z}:still e s s' d (.alloc z)=stob s s' (get e d):=stob_eq
theorem still_box {e s s' d z}:still e s s' d (.box z)=stob s s' (get e d):=stob_eq
theorem still_box0 {e s s' d z}:still e s s' d (.box0 z)=stob s s' (get e d):=stob_eq
theorem still_mkm {e s s' d}:still e s s' d .mkm=stob s s' (get e d):=stob_eq
theorem still_bsl {e s s' d a b c f}:still e s s' d (.bsl a b c f)=stob s s' (get e d):=stob_eq
theorem still_msl {e s s' d a b c f}:still e s s' d (.msl a b c f)=stob s s' (get e d):=stob_eq
theorem stob_ref {s s' r o}:stob s s' (some (.ref r o))=(obj s' r=obj s r):=(rfl)
theorem stob_mp {s s' r}:stob s s' (some (.mp r))=(obj s' r=obj s r):=(rfl)
theorem stob_os {s s' a el n}:stob s s' (some (.os a el n))=(s'.arr a=s.arr a):=(rfl)
attribute [go_sem] still_alloc still_box still_box0 still_mkm still_bsl still_msl stob_ref stob_mp stob_os
attribute [go_sem] cells_mp cells_np cells_nm cells_nf cells_aref cells_ep
attribute [go_sem] List.length_map ex_obj0' ex_obj' ex_set0' ex_set' new_ex0 new_ex ex_ex ex_cnt ex_obj0 ex_obj ex_old ex_set0 ex_set ex_sets ex_cut ex_cut' ex_tk ex_tk' ex_tki ex_tki' tk_id tk_id' cut_id' ex_arr ex_nxt ex_wa ex_newAr lt_exl lt_ex0 lt_ex lt_exr eq_ex eq_ex' add_ex lst_low lst_alow lst_cells lst_frz lst_flat
attribute [go_sem] false_implies true_implies Bool.false_eq_true
attribute [go_sem] frz_i frz_b frz_s frz_nsl frz_np frz_ref frz_sl frz_agg frz_tup frzAll_nil frzAll_cons len_lst List.set_cons_zero List.set_cons_succ
end Go.Am
namespace Go.Am
open Go
def tokensOf (t:List UInt8):List Tok × Fault :=
 if t.length>8192 then ([],⟨2,1,1⟩)
 else match tokensN (t.length+1) ⟨t,0,1,1⟩ [] with
  | .ok l=>(l,⟨0,0,0⟩)
  | .error f=>([],f)
def toks (l:List Tok):AV:=lst (.st 6) (l.map Tok.av)
theorem Tokens_eq (t:List UInt8) (s:St):C F0 X0 27 [.s t] s=some (.tup [toks (tokensOf t).1,(tokensOf t).2.av],s):=by
 refine W.eq ?_
 rw[w_call (f:=27) rfl]
 simp only[go_sem,reduceCtorEq,↓reduceIte,nA,nB,nC,nD,nE,iA,iB,iC,iD,iE,iF]
 refine W.ifc (fun h=>?_) (fun h=>?_)
 ·have ht:tokensOf t=([],⟨2,1,1⟩):=if_pos (by simp at h;omega)
  rw[ht]
  simp only[go_sem,reduceCtorEq,↓reduceIte,nA,nB,nC,nD,nE,iA,iB,iC,iD,iE,iF]
  rfl
 ·have hl:t.length≤8192:=by simp at h;omega
  have ht:tokensOf t=match tokensN (t.length+1) ⟨t,0,1,1⟩ [] with
   | .ok l=>(l,⟨0,0,0⟩)
   | .error f=>([],f):=if_neg (by omega)
  rw[ht]
  simp only[go_sem,reduceCtorEq,↓reduceIte,nA,nB,nC,nD,nE,iA,iB,iC,iD,iE,iF]
  refine W.step (tokens_loop (t.length+1) ⟨t,0,1,1⟩ [] _ _ (cnt s+2) (cnt s) .nsl s.nxt ⟨by show t.length≤1000000;omega,Nat.zero_le _,Nat.le_refl _,Nat.le_refl _⟩ (by simp only[go_sem,reduceCtorEq,↓reduceIte,nA,nB,nC,nD,nE,iA,iB,iC,iD,iE,iF];rfl) (by show t.length - 0<t.length+1;omega) (Nat.zero_le _) (by omega) (by simp only[go_sem,reduceCtorEq,↓reduceIte,nA,nB,nC,nD,nE,iA,iB,iC,iD,iE,iF]) (Nat.le_refl _) (by simp only[go_sem,reduceCtorEq,↓reduceIte,nA,nB,nC,nD,nE,iA,iB,iC,iD,iE,iF]) Gl.nil) ?_
  rintro q ⟨e,A,N,r',k1,k2,e3,k4⟩
  revert k4
  cases tokensN (t.length+1) ⟨t,0,1,1⟩ [] with
  | error g =>
   rintro⟨rfl,e2⟩
   simp only[go_sem,reduceCtorEq,↓reduceIte,nA,nB,nC,nD,nE,iA,iB,iC,iD,iE,iF,e2,e3]
   rw[back_wa k1 rfl]
   rfl
  | ok l =>
   rintro⟨v,rfl,e6,hg⟩
   simp only[go_sem,reduceCtorEq,↓reduceIte,nA,nB,nC,nD,nE,iA,iB,iC,iD,iE,iF,e3,e6]
   obtain⟨A',hz,ho⟩:=hg.fin
   simp only[go_sem,reduceCtorEq,↓reduceIte,nA,nB,nC,nD,nE,iA,iB,iC,iD,iE,iF,hz 19997]
   rw[back_wa (ho.trans k1) (by simp[AV.alow,AV.alowL,lst_alow])]
   rfl
attribute [go_sem] Tokens_eq
theorem toks_nth {l:List Tok} {i:Nat} (h:i<l.length):(l.map Tok.av)[i]?=some (l[i]).av:=by simp[h]
theorem One_tot (t:List UInt8) (s:St):∃ k b,C F0 X0 109 [.s t] s=some (.tup [Tok.av k,.b b],s):=by
 suffices h:W (C F0 X0 109 [.s t] s) fun q=>∃ (k:Tok) (b:Bool),q=(.tup [k.av,.b b],s) by
  obtain⟨r,h1,k,b,rfl⟩:=h;exact⟨k,b,h1⟩
 rw[w_call (f:=109) rfl]
 simp only[go_sem,reduceCtorEq,↓reduceIte,nA,nB,nC,nD,nE,iA,iB,iC,iD,iE,iF,Fault.av,toks]
 refine W.ifc (fun h=>?_) (fun h=>?_)
 ·simp only[go_sem,reduceCtorEq,↓reduceIte,nA,nB,nC,nD,nE,iA,iB,iC,iD,iE,iF,h,Bool.false_eq_true]
  exact⟨tok0,false,rfl⟩
 ·simp only[go_sem,reduceCtorEq,↓reduceIte,nA,nB,nC,nD,nE,iA,iB,iC,iD,iE,iF,h,Bool.false_eq_true,List.length_map]
  refine W.ifc (fun h1=>?_) (fun h1=>?_)
  ·simp only[go_sem,reduceCtorEq,↓reduceIte,nA,nB,nC,nD,nE,iA,iB,iC,iD,iE,iF,h,h1,Bool.false_eq_true]
   exact⟨tok0,false,rfl⟩
  ·have hl:(tokensOf t).1.length=1:=by simp[bne] at h1;omega
   obtain⟨x,hx⟩:=List.length_eq_one_iff.1 hl
   have g0:(List.map Tok.av (tokensOf t).1)[0]?=some x.av:=by rw[hx];rfl
   have g1:∀ k,aiad (.st 6) (lst (.st 6) (List.map Tok.av (tokensOf t).1)) (.i k 0)=some (.ep x.av.cells 0):=fun k=>lst_iad (i:=0) rfl g0
   simp only[go_sem,reduceCtorEq,↓reduceIte,nA,nB,nC,nD,nE,iA,iB,iC,iD,iE,iF,h,h1,Bool.false_eq_true,g1,Tok.av]
   refine W.ifc (fun h2=>?_) (fun h2=>?_)
   ·simp only[go_sem,reduceCtorEq,↓reduceIte,nA,nB,nC,nD,nE,iA,iB,iC,iD,iE,iF,h,h2,Bool.false_eq_true,g1,Tok.av]
    exact⟨x,true,rfl⟩
   ·simp only[go_sem,reduceCtorEq,↓reduceIte,nA,nB,nC,nD,nE,iA,iB,iC,iD,iE,iF,h,h2,Bool.false_eq_true,g1,Tok.av]
    exact⟨tok0,false,rfl⟩
noncomputable def oneK (t:List UInt8) (s:St):Tok:=Classical.choose (One_tot t s)
noncomputable def oneB (t:List UInt8) (s:St):Bool:=Classical.choose (Classical.choose_spec (One_tot t s))
@[go_sem] theorem One_eq (t:List UInt8) (s:St):C F0 X0 109 [.s t] s=some (.tup [(oneK t s).av,.b (oneB t s)],s):=Classical.choose_spec (Classical.choose_spec (One_tot t s))
end Go.Am
namespace Go.Am
open Go
abbrev Str:=List UInt8
def strs (l:List Str):List AV:=l.map .s
inductive Ty where
 | mk (kind n:Int) (name:Str) (args:List Ty)
inductive Pat where
 | mk (kind:Int) (name:Str) (n:Int) (args:List Pat) (l c:Int)
structure FixT where
 op:Str
 assoc:Int
 level:Int
 l:Int
 c:Int
structure Constr where
 name:Str
 fields:List Ty
 l:Int
 c:Int
structure Data where
 name:Str
 params:List Str
 cons:List Constr
 l:Int
 c:Int
inductive GK where
 | zero|var|con|int|lam|lt|cas|iff
def GK.int':GK→Int
 | .zero=>0|.var=>1|.con=>2|.int=>3|.lam=>5|.lt=>6|.cas=>7|.iff=>8
mutual
inductive Xp where
 | app (a b:Xp) (l c:Int)
 | row (a:Xp) (ops:List Rop)
 | gen (k:GK) (name:Str) (n:Int) (params:List Str) (args:List Xp) (alts:List Alt) (binds:List Bnd) (l c:Int)
inductive Rop where
 | mk (name:Str) (l c:Int) (x:Xp)
inductive Rhs where
 | mk (guard:List Xp) (body:Xp)
inductive Alt where
 | mk (pat:Pat) (rhs:List Rhs)
inductive Clause where
 | mk (pats:List Pat) (rhs:List Rhs)
inductive Bnd where
 | mk (name:Str) (cl:Clause) (cs:List Clause) (l c:Int)
end
mutual
def Ty.av:Ty→AV
 | .mk k n nm as=>.agg [.i .i64 k,.i .i64 n,.s nm,lst (.st 4) (Ty.avs as)]
def Ty.avs:List Ty→List AV
 | []=>[]
 | x::xs=>x.av::Ty.avs xs
end
mutual
def Pat.av:Pat→AV
 | .mk k nm n as l c=>.agg [.i .i64 k,.s nm,.i .i64 n,lst (.st 6) (Pat.avs as),.i .i64 l,.i .i64 c]
def Pat.avs:List Pat→List AV
 | []=>[]
 | x::xs=>x.av::Pat.avs xs
end
def FixT.av (f:FixT):AV:=.agg [.s f.op,.i .i64 f.assoc,.i .i64 f.level,.i .i64 f.l,.i .i64 f.c]
def Constr.av (c:Constr):AV:=.agg [.s c.name,lst (.st 4) (Ty.avs c.fields),.i .i64 c.l,.i .i64 c.c]
def Data.av (d:Data):AV:=.agg [.s d.name,lst .one (strs d.params),lst (.st 4) (d.cons.map Constr.av),.i .i64 d.l,.i .i64 d.c]
mutual
def Xp.av:Xp→AV
 | .app a b l c=>.agg [.i .i64 4,.s [],.i .i64 0,.nsl,.sl (.st 9) [a.av,b.av],.nsl,.nsl,.i .i64 l,.i .i64 c]
 | .row a ops=>.agg [.i .i64 (-1),.s [],.i .i64 0,.nsl,.sl (.st 9) (a.av::Rop.xs ops),.nsl,lst (.st 4) (Rop.bs ops),.i .i64 0,.i .i64 0]
 | .gen k nm n ps as al bs l c=>.agg [.i .i64 k.int',.s nm,.i .i64 n,lst .one (strs ps),lst (.st 9) (Xp.avs as),lst (.st 7) (Alt.avs al),lst (.st 4) (Bnd.avs bs),.i .i64 l,.i .i64 c]
def Xp.avs:List Xp→List AV
 | []=>[]
 | x::xs=>x.av::Xp.avs xs
def Rop.xs:List Rop→List AV
 | []=>[]
 | .mk _ _ _ x::xs=>x.av::Rop.xs xs
def Rop.bs:List Rop→List AV
 | []=>[]
 | .mk nm l c _::xs=>.agg [.s nm,.nsl,.i .i64 l,.i .i64 c]::Rop.bs xs
def Rhs.av:Rhs→AV
 | .mk g b=>.agg (lst (.st 9) (Xp.avs g)::b.av.cells)
def Rhs.avs:List Rhs→List AV
 | []=>[]
 | x::xs=>x.av::Rhs.avs xs
def Alt.av:Alt→AV
 | .mk p r=>.agg (p.av.cells++[lst (.st 10) (Rhs.avs r)])
def Alt.avs:List Alt→List AV
 | []=>[]
 | x::xs=>x.av::Alt.avs xs
def Clause.av:Clause→AV
 | .mk ps r=>.agg [lst (.st 6) (Pat.avs ps),lst (.st 10) (Rhs.avs r)]
def Clause.avs:List Clause→List AV
 | []=>[]
 | x::xs=>x.av::Clause.avs xs
def Bnd.av:Bnd→AV
 | .mk nm cl cs l c=>.agg [.s nm,.sl (.st 2) (cl.av::Clause.avs cs),.i .i64 l,.i .i64 c]
def Bnd.avs:List Bnd→List AV
 | []=>[]
 | x::xs=>x.av::Bnd.avs xs
end
theorem Ty.avs_map:∀ l,Ty.avs l=l.map Ty.av|[]=>rfl|x::xs=>by rw[Ty.avs,Ty.avs_map xs];rfl
theorem Pat.avs_map:∀ l,Pat.avs l=l.map Pat.av|[]=>rfl|x::xs=>by rw[Pat.avs,Pat.avs_map xs];rfl
theorem Xp.avs_map:∀ l,Xp.avs l=l.map Xp.av|[]=>rfl|x::xs=>by rw[Xp.avs,Xp.avs_map xs];rfl
theorem Rhs.avs_map:∀ l,Rhs.avs l=l.map Rhs.av|[]=>rfl|x::xs=>by rw[Rhs.avs,Rhs.avs_map xs];rfl
theorem Alt.avs_map:∀ l,Alt.avs l=l.map Alt.av|[]=>rfl|x::xs=>by rw[Alt.avs,Alt.avs_map xs];rfl
theorem Clause.avs_map:∀ l,Clause.avs l=l.map Clause.av|[]=>rfl|x::xs=>by rw[Clause.avs,Clause.avs_map xs];rfl
theorem Bnd.avs_map:∀ l,Bnd.avs l=l.map Bnd.av|[]=>rfl|x::xs=>by rw[Bnd.avs,Bnd.avs_map xs];rfl
def Rop.x:Rop→Xp|.mk _ _ _ x=>x
def Rop.bv:Rop→AV|.mk nm l c _=>.agg [.s nm,.nsl,.i .i64 l,.i .i64 c]
theorem Rop.xs_map:∀ l,Rop.xs l=l.map (fun o=>o.x.av)|[]=>rfl|.mk _ _ _ x::xs=>by rw[Rop.xs,Rop.xs_map xs];rfl
theorem Rop.bs_map:∀ l,Rop.bs l=l.map Rop.bv|[]=>rfl|.mk _ _ _ x::xs=>by rw[Rop.bs,Rop.bs_map xs];rfl
def Xp.kind:Xp→Int|.app .. => 4|.row .. => -1|.gen k .. => k.int'
def Xp.name:Xp→Str|.gen _ n .. => n|_=>[]
def Xp.n:Xp→Int|.gen _ _ n .. => n|_=>0
def Xp.params:Xp→List Str|.gen _ _ _ p .. => p|_=>[]
def Xp.args:Xp→List Xp|.app a b .. => [a,b]|.row a ops=>a::ops.map Rop.x|.gen _ _ _ _ as .. => as
def Xp.alts:Xp→List Alt|.gen _ _ _ _ _ al .. => al|_=>[]
def Xp.binds:Xp→List Bnd|.gen _ _ _ _ _ _ bs .. => bs|_=>[]
def Xp.bvs:Xp→List AV|.row _ ops=>ops.map Rop.bv|.gen _ _ _ _ _ _ bs .. => bs.map Bnd.av|_=>[]
def Xp.l:Xp→Int|.app _ _ l _=>l|.row .. => 0|.gen _ _ _ _ _ _ _ l _=>l
def Xp.c:Xp→Int|.app _ _ _ c=>c|.row .. => 0|.gen _ _ _ _ _ _ _ _ c=>c
theorem Xp.av_eq (e:Xp):e.av=.agg [.i .i64 e.kind,.s e.name,.i .i64 e.n,lst .one (strs e.params),lst (.st 9) (e.args.map Xp.av),lst (.st 7) (e.alts.map Alt.av),lst (.st 4) e.bvs,.i .i64 e.l,.i .i64 e.c]:=by
 cases e with
 | app a b l c=>rfl
 | row a ops=>unfold Xp.av;rw[Rop.xs_map,Rop.bs_map];simp[Xp.kind,Xp.name,Xp.n,Xp.params,Xp.args,Xp.alts,Xp.bvs,Xp.l,Xp.c,strs,lst_nil,lst_cons]
 | gen k nm n ps as al bs l c=>unfold Xp.av;rw[Xp.avs_map,Alt.avs_map,Bnd.avs_map];rfl
def Rhs.guard:Rhs→List Xp|.mk g _=>g
def Rhs.body:Rhs→Xp|.mk _ b=>b
def Alt.pat:Alt→Pat|.mk p _=>p
def Alt.rhs:Alt→List Rhs|.mk _ r=>r
def Clause.pats:Clause→List Pat|.mk p _=>p
def Clause.rhs:Clause→List Rhs|.mk _ r=>r
def Bnd.name:Bnd→Str|.mk n .. => n
def Bnd.cl:Bnd→Clause|.mk _ c .. => c
def Bnd.cs:Bnd→List Clause|.mk _ _ c .. => c
def Bnd.cls (b:Bnd):List Clause:=b.cl::b.cs
def Bnd.l:Bnd→Int|.mk _ _ _ l _=>l
def Bnd.c:Bnd→Int|.mk _ _ _ _ c=>c
def Pat.kind:Pat→Int|.mk k .. => k
def Pat.name:Pat→Str|.mk _ n .. => n
def Pat.n:Pat→Int|.mk _ _ n .. => n
def Pat.args:Pat→List Pat|.mk _ _ _ a .. => a
def Pat.l:Pat→Int|.mk _ _ _ _ l _=>l
def Pat.c:Pat→Int|.mk _ _ _ _ _ c=>c
def Ty.kind:Ty→Int|.mk k .. => k
def Ty.n:Ty→Int|.mk _ n .. => n
def Ty.name:Ty→Str|.mk _ _ n _=>n
def Ty.args:Ty→List Ty|.mk _ _ _ a=>a
theorem Pat.av_eq (p:Pat):p.av=.agg [.i .i64 p.kind,.s p.name,.i .i64 p.n,lst (.st 6) (p.args.map Pat.av),.i .i64 p.l,.i .i64 p.c]:=by
 cases p;unfold Pat.av;rw[Pat.avs_map];rfl
theorem Ty.av_eq (t:Ty):t.av=.agg [.i .i64 t.kind,.i .i64 t.n,.s t.name,lst (.st 4) (t.args.map Ty.av)]:=by
 cases t;unfold Ty.av;rw[Ty.avs_map];rfl
theorem Rhs.av_eq (r:Rhs):r.av=.agg [lst (.st 9) (r.guard.map Xp.av),.i .i64 r.body.kind,.s r.body.name,.i .i64 r.body.n,lst .one (strs r.body.params),lst (.st 9) (r.body.args.map Xp.av),lst (.st 7) (r.body.alts.map Alt.av),lst (.st 4) r.body.bvs,.i .i64 r.body.l,.i .i64 r.body.c]:=by
 cases r;unfold Rhs.av;rw[Xp.avs_map,Xp.av_eq];rfl
theorem Alt.av_eq (a:Alt):a.av=.agg [.i .i64 a.pat.kind,.s a.pat.name,.i .i64 a.pat.n,lst (.st 6) (a.pat.args.map Pat.av),.i .i64 a.pat.l,.i .i64 a.pat.c,lst (.st 10) (a.rhs.map Rhs.av)]:=by
 cases a;unfold Alt.av;rw[Rhs.avs_map,Pat.av_eq];rfl
theorem Clause.av_eq (c:Clause):c.av=.agg [lst (.st 6) (c.pats.map Pat.av),lst (.st 10) (c.rhs.map Rhs.av)]:=by
 cases c;unfold Clause.av;rw[Rhs.avs_map,Pat.avs_map];rfl
theorem Bnd.av_eq (b:Bnd):b.av=.agg [.s b.name,lst (.st 2) (b.cls.map Clause.av),.i .i64 b.l,.i .i64 b.c]:=by
 cases b;unfold Bnd.av;rw[Clause.avs_map];rfl
theorem Data.av_eq (d:Data):d.av=.agg [.s d.name,lst .one (strs d.params),lst (.st 4) (d.cons.map Constr.av),.i .i64 d.l,.i .i64 d.c]:=(rfl)
theorem Constr.av_eq (c:Constr):c.av=.agg [.s c.name,lst (.st 4) (c.fields.map Ty.av),.i .i64 c.l,.i .i64 c.c]:=by
 unfold Constr.av;rw[Ty.avs_map]
theorem finL_map {α:Type} {f:α→AV}:∀ {l:List α},(∀ x∈l,(f x).fin=true)→AV.finL (l.map f)=true
 | [],_=>rfl
 | x::xs,h=>by
  rw[List.map_cons]
  unfold AV.finL
  rw[h x (List.mem_cons_self ..),finL_map (fun y hy=>h y (List.mem_cons_of_mem _ hy))]
  rfl
theorem lst_fin' {el xs}:(lst el xs).fin=AV.finL xs:=by cases xs<;>rfl
theorem finL_strs {l:List Str}:AV.finL (strs l)=true:=finL_map (fun _ _=>rfl)
mutual
theorem Ty.fin:∀ t:Ty,t.av.fin=true
 | .mk k n nm as=>by unfold Ty.av;simp[AV.fin,AV.finL,lst_fin',Ty.fins as]
theorem Ty.fins:∀ l:List Ty,AV.finL (Ty.avs l)=true
 | []=>rfl
 | x::xs=>by unfold Ty.avs AV.finL;rw[x.fin,Ty.fins xs];rfl
end
mutual
theorem Pat.fin:∀ t:Pat,t.av.fin=true
 | .mk k nm n as l c=>by unfold Pat.av;simp[AV.fin,AV.finL,lst_fin',Pat.fins as]
theorem Pat.fins:∀ l:List Pat,AV.finL (Pat.avs l)=true
 | []=>rfl
 | x::xs=>by unfold Pat.avs AV.finL;rw[x.fin,Pat.fins xs];rfl
end
theorem finL_app:∀ {xs ys:List AV},AV.finL (xs++ys)=(AV.finL xs&&AV.finL ys)
 | [],ys=>rfl
 | x::xs,ys=>by show (x.fin&&AV.finL (xs++ys))=_;rw[finL_app];show _=(x.fin&&AV.finL xs&&AV.finL ys);rw[Bool.and_assoc]
theorem Pat.finc (t:Pat):AV.finL t.av.cells=true:=by have:=t.fin;rw[Pat.av_eq] at this ⊢;exact this
mutual
theorem Xp.fin:∀ e:Xp,e.av.fin=true
 | .app a b l c=>by unfold Xp.av;simp[AV.fin,AV.finL,a.fin,b.fin]
 | .row a ops=>by unfold Xp.av;simp[AV.fin,AV.finL,a.fin,lst_fin',Rop.finx ops,Rop.finb ops]
 | .gen k nm n ps as al bs l c=>by unfold Xp.av;simp[AV.fin,AV.finL,lst_fin',finL_strs,Xp.fins as,Alt.fins al,Bnd.fins bs]
theorem Xp.fins:∀ l:List Xp,AV.finL (Xp.avs l)=true
 | []=>rfl
 | x::xs=>by unfold Xp.avs AV.finL;rw[x.fin,Xp.fins xs];rfl
theorem Rop.finx:∀ l:List Rop,AV.finL (Rop.xs l)=true
 | []=>rfl
 | .mk _ _ _ x::xs=>by unfold Rop.xs AV.finL;rw[x.fin,Rop.finx xs];rfl
theorem Rop.finb:∀ l:List Rop,AV.finL (Rop.bs l)=true
 | []=>rfl
 | .mk _ _ _ x::xs=>by unfold Rop.bs AV.finL;rw[Rop.finb xs];rfl
theorem Rhs.fin:∀ r:Rhs,r.av.fin=true
 | .mk g b=>by
  have h:AV.finL b.av.cells=true:=by have:=b.fin;rw[Xp.av_eq] at this ⊢;exact this
  unfold Rhs.av;simp[AV.fin,AV.finL,lst_fin',Xp.fins g,h]
theorem Rhs.fins:∀ l:List Rhs,AV.finL (Rhs.avs l)=true
 | []=>rfl
 | x::xs=>by unfold Rhs.avs AV.finL;rw[x.fin,Rhs.fins xs];rfl
theorem Alt.fin:∀ r:Alt,r.av.fin=true
 | .mk p r=>by unfold Alt.av;simp[AV.fin,AV.finL,finL_app,p.finc,lst_fin',Rhs.fins r]
theorem Alt.fins:∀ l:List Alt,AV.finL (Alt.avs l)=true
 | []=>rfl
 | x::xs=>by unfold Alt.avs AV.finL;rw[x.fin,Alt.fins xs];rfl
theorem Clause.fin:∀ r:Clause,r.av.fin=true
 | .mk p r=>by unfold Clause.av;simp[AV.fin,AV.finL,Pat.fins p,lst_fin',Rhs.fins r]
theorem Clause.fins:∀ l:List Clause,AV.finL (Clause.avs l)=true
 | []=>rfl
 | x::xs=>by unfold Clause.avs AV.finL;rw[x.fin,Clause.fins xs];rfl
theorem Bnd.fin:∀ r:Bnd,r.av.fin=true
 | .mk nm cl cs l c=>by unfold Bnd.av;simp[AV.fin,AV.finL,cl.fin,Clause.fins cs]
theorem Bnd.fins:∀ l:List Bnd,AV.finL (Bnd.avs l)=true
 | []=>rfl
 | x::xs=>by unfold Bnd.avs AV.finL;rw[x.fin,Bnd.fins xs];rfl
end
theorem scal_of {x:AV} (h:x.cells=[x]) (hf:x.fin=true) (hb:∀ cs,x≠.agg cs):x.scal=true:=by cases x<;>first|rfl|exact hf|(exact absurd rfl (hb _))|cases hf
def AV.flatc:List AV→Bool
 | []=>true
 | .agg _::_=>false
 | .tup _::_=>false
 | .un::_=>false
 | _::xs=>flatc xs
theorem all_scal:∀ {cs:List AV},AV.finL cs=true→AV.flatc cs=true→cs.all AV.scal=true
 | [],_,_=>rfl
 | x::xs,h,k=>by
  unfold AV.finL at h
  rw[Bool.and_eq_true] at h
  rw[List.all_cons,Bool.and_eq_true]
  refine⟨?_,all_scal h.2 ?_⟩
  ·cases x<;>first|rfl|exact h.1|cases k|cases h.1
  ·cases x<;>first|exact k|cases k
theorem flatc_lst {el xs cs}:AV.flatc (lst el xs::cs)=AV.flatc cs:=by cases xs<;>rfl
theorem ele_of {n:Nat} {x:AV} {cs:List AV} (h:x=.agg cs) (hf:x.fin=true) (hl:cs.length=n) (hc:AV.flatc cs=true):Ele (.st n) x:=by
 subst h;exact ele_st hl (all_scal hf hc)
theorem Ty.ele (t:Ty):Ele (.st 4) t.av:=ele_of t.av_eq t.fin rfl (by simp[AV.flatc,flatc_lst])
theorem Pat.ele (t:Pat):Ele (.st 6) t.av:=ele_of t.av_eq t.fin rfl (by simp[AV.flatc,flatc_lst])
theorem Xp.ele (t:Xp):Ele (.st 9) t.av:=ele_of t.av_eq t.fin rfl (by simp[AV.flatc,flatc_lst])
theorem Rhs.ele (t:Rhs):Ele (.st 10) t.av:=ele_of t.av_eq t.fin rfl (by simp[AV.flatc,flatc_lst])
theorem Alt.ele (t:Alt):Ele (.st 7) t.av:=ele_of t.av_eq t.fin rfl (by simp[AV.flatc,flatc_lst])
theorem Clause.ele (t:Clause):Ele (.st 2) t.av:=ele_of t.av_eq t.fin rfl (by simp[AV.flatc,flatc_lst])
theorem Bnd.ele (t:Bnd):Ele (.st 4) t.av:=ele_of t.av_eq t.fin rfl (by simp[AV.flatc,flatc_lst])
theorem FixT.ele (t:FixT):Ele (.st 5) t.av:=ele_st rfl rfl
theorem Constr.fin (c:Constr):c.av.fin=true:=by unfold Constr.av;simp[AV.fin,AV.finL,lst_fin',Ty.fins]
theorem Constr.ele (t:Constr):Ele (.st 4) t.av:=ele_of t.av_eq t.fin rfl (by simp[AV.flatc,flatc_lst])
theorem Data.fin (c:Data):c.av.fin=true:=by unfold Data.av;simp[AV.fin,AV.finL,lst_fin',finL_strs,finL_map (fun (x:Constr) _=>x.fin)]
theorem Data.ele (t:Data):Ele (.st 5) t.av:=ele_of t.av_eq t.fin rfl (by simp[AV.flatc,flatc_lst])
structure Con where
 name:Str
 data:Str
 tag:Int
 params:Int
 fields:List Ty
def Con.av (c:Con):AV:=.agg [.s c.name,.s c.data,.i .i64 c.tag,.i .i64 c.params,lst (.st 4) (c.fields.map Ty.av)]
theorem Con.av_eq (c:Con):c.av=.agg [.s c.name,.s c.data,.i .i64 c.tag,.i .i64 c.params,lst (.st 4) (c.fields.map Ty.av)]:=(rfl)
theorem Con.fin (c:Con):c.av.fin=true:=by unfold Con.av;simp[AV.fin,AV.finL,lst_fin',finL_map (fun (x:Ty) _=>x.fin)]
theorem Con.cells_eq (c:Con):c.av.cells=[.s c.name,.s c.data,.i .i64 c.tag,.i .i64 c.params,lst (.st 4) (c.fields.map Ty.av)]:=(rfl)
theorem Con.fold (c:Con):AV.agg [.s c.name,.s c.data,.i .i64 c.tag,.i .i64 c.params,lst (.st 4) (c.fields.map Ty.av)]=c.av:=(rfl)
theorem Con.low {n} (c:Con):c.av.low n=true:=by rw[Con.av_eq];simp[low_agg,lowL_cons,lowL_nil,lst_low,low_i,low_s]
theorem Con.alow {n} (c:Con):c.av.alow n=true:=by rw[Con.av_eq];simp[alow_agg,alowL_cons,alowL_nil,lst_alow,alow_i,alow_s]
attribute [go_sem] Con.cells_eq Con.fold Con.low Con.alow Con.fin
mutual
def Ty.ok:Ty→Prop
 | .mk _ _ _ as=>as.length≤900000∧Ty.oks as
def Ty.oks:List Ty→Prop
 | []=>True
 | x::xs=>x.ok∧Ty.oks xs
end
mutual
def Pat.ok:Pat→Prop
 | .mk _ _ _ as _ _=>as.length≤900000∧Pat.oks as
def Pat.oks:List Pat→Prop
 | []=>True
 | x::xs=>x.ok∧Pat.oks xs
end
mutual
def Xp.ok:Xp→Prop
 | .app a b _ _=>a.ok∧b.ok
 | .row a ops=>a.ok∧ops.length<900000∧Rop.oks ops
 | .gen _ _ _ ps as al bs _ _=>ps.length≤900000∧as.length≤900000∧al.length≤900000∧bs.length≤900000∧Xp.oks as∧Alt.oks al∧Bnd.oks bs
def Rop.ok:Rop→Prop
 | .mk _ _ _ x=>x.ok
def Xp.oks:List Xp→Prop
 | []=>True
 | x::xs=>x.ok∧Xp.oks xs
def Rop.oks:List Rop→Prop
 | []=>True
 | x::xs=>x.ok∧Rop.oks xs
def Rhs.ok:Rhs→Prop
 | .mk g b=>g.length≤900000∧Xp.oks g∧b.ok
def Rhs.oks:List Rhs→Prop
 | []=>True
 | x::xs=>x.ok∧Rhs.oks xs
def Alt.ok:Alt→Prop
 | .mk p r=>p.ok∧r.length≤900000∧Rhs.oks r
def Alt.oks:List Alt→Prop
 | []=>True
 | x::xs=>x.ok∧Alt.oks xs
def Clause.ok:Clause→Prop
 | .mk p r=>p.length≤900000∧Pat.oks p∧r.length≤900000∧Rhs.oks r
def Clause.oks:List Clause→Prop
 | []=>True
 | x::xs=>x.ok∧Clause.oks xs
def Bnd.ok:Bnd→Prop
 | .mk _ cl cs _ _=>cl.ok∧cs.length<900000∧Clause.oks cs
def Bnd.oks:List Bnd→Prop
 | []=>True
 | x::xs=>x.ok∧Bnd.oks xs
end
structure Constr.ok (c:Constr):Prop where
 len:c.fields.length≤900000
 all:∀ x∈c.fields,x.ok
structure Data.ok (d:Data):Prop where
 lenp:d.params.length≤900000
 len:d.cons.length≤900000
 all:∀ x∈d.cons,x.ok
theorem Ty.oks_iff:∀ {l:List Ty},Ty.oks l↔∀ x∈l,x.ok
 | []=>by simp[Ty.oks]
 | x::xs=>by rw[Ty.oks,Ty.oks_iff];simp
theorem Pat.oks_iff:∀ {l:List Pat},Pat.oks l↔∀ x∈l,x.ok
 | []=>by simp[Pat.oks]
 | x::xs=>by rw[Pat.oks,Pat.oks_iff];simp
theorem Xp.oks_iff:∀ {l:List Xp},Xp.oks l↔∀ x∈l,x.ok
 | []=>by simp[Xp.oks]
 | x::xs=>by rw[Xp.oks,Xp.oks_iff];simp
theorem Rop.oks_iff:∀ {l:List Rop},Rop.oks l↔∀ x∈l,x.ok
 | []=>by simp[Rop.oks]
 | x::xs=>by rw[Rop.oks,Rop.oks_iff];simp
theorem Rhs.oks_iff:∀ {l:List Rhs},Rhs.oks l↔∀ x∈l,x.ok
 | []=>by simp[Rhs.oks]
 | x::xs=>by rw[Rhs.oks,Rhs.oks_iff];simp
theorem Alt.oks_iff:∀ {l:List Alt},Alt.oks l↔∀ x∈l,x.ok
 | []=>by simp[Alt.oks]
 | x::xs=>by rw[Alt.oks,Alt.oks_iff];simp
theorem Clause.oks_iff:∀ {l:List Clause},Clause.oks l↔∀ x∈l,x.ok
 | []=>by simp[Clause.oks]
 | x::xs=>by rw[Clause.oks,Clause.oks_iff];simp
theorem Bnd.oks_iff:∀ {l:List Bnd},Bnd.oks l↔∀ x∈l,x.ok
 | []=>by simp[Bnd.oks]
 | x::xs=>by rw[Bnd.oks,Bnd.oks_iff];simp
theorem Ty.ok_args {t:Ty} (h:t.ok):t.args.length≤900000∧∀ x∈t.args,x.ok:=by
 cases t;unfold Ty.ok at h;exact⟨h.1,Ty.oks_iff.1 h.2⟩
theorem Pat.ok_args {t:Pat} (h:t.ok):t.args.length≤900000∧∀ x∈t.args,x.ok:=by
 cases t;unfold Pat.ok at h;exact⟨h.1,Pat.oks_iff.1 h.2⟩
theorem Xp.ok_args {t:Xp} (h:t.ok):t.args.length≤900000∧∀ x∈t.args,x.ok:=by
 cases t with
 | app a b l c=>unfold Xp.ok at h;exact⟨by show 2≤900000;omega,by simp[Xp.args];exact h⟩
 | row a ops =>
  unfold Xp.ok at h
  refine⟨by simp[Xp.args];have:=h.2.1;omega,?_⟩
  intro x hx
  simp only[Xp.args,List.mem_cons,List.mem_map] at hx
  rcases hx with rfl|⟨o,ho,rfl⟩
  ·exact h.1
  ·have:=Rop.oks_iff.1 h.2.2 o ho
   cases o;unfold Rop.ok at this;exact this
 | gen k nm n ps as al bs l c=>unfold Xp.ok at h;exact⟨h.2.1,Xp.oks_iff.1 h.2.2.2.2.1⟩
theorem Xp.ok_alts {t:Xp} (h:t.ok):t.alts.length≤900000∧∀ x∈t.alts,x.ok:=by
 cases t with
 | gen k nm n ps as al bs l c=>unfold Xp.ok at h;exact⟨h.2.2.1,Alt.oks_iff.1 h.2.2.2.2.2.1⟩
 | _=>exact⟨Nat.zero_le _,fun x hx=>by cases hx⟩
theorem Xp.ok_params {t:Xp} (h:t.ok):t.params.length≤900000:=by
 cases t with
 | gen k nm n ps as al bs l c=>unfold Xp.ok at h;exact h.1
 | _=>exact Nat.zero_le _
theorem Xp.ok_binds {t:Xp} (h:t.ok):t.binds.length≤900000∧∀ x∈t.binds,x.ok:=by
 cases t with
 | gen k nm n ps as al bs l c=>unfold Xp.ok at h;exact⟨h.2.2.2.1,Bnd.oks_iff.1 h.2.2.2.2.2.2⟩
 | _=>exact⟨Nat.zero_le _,fun x hx=>by cases hx⟩
theorem Xp.ok_bvs {t:Xp} (h:t.ok):t.bvs.length≤900000:=by
 cases t with
 | gen k nm n ps as al bs l c=>unfold Xp.ok at h;simp only[Xp.bvs,List.length_map];exact h.2.2.2.1
 | row a ops=>unfold Xp.ok at h;simp only[Xp.bvs,List.length_map];exact Nat.le_of_lt h.2.1
 | _=>exact Nat.zero_le _
theorem Rhs.ok_parts {t:Rhs} (h:t.ok):t.guard.length≤900000∧(∀ x∈t.guard,x.ok)∧t.body.ok:=by
 cases t;unfold Rhs.ok at h;exact⟨h.1,Xp.oks_iff.1 h.2.1,h.2.2⟩
theorem Alt.ok_parts {t:Alt} (h:t.ok):t.pat.ok∧t.rhs.length≤900000∧∀ x∈t.rhs,x.ok:=by
 cases t;unfold Alt.ok at h;exact⟨h.1,h.2.1,Rhs.oks_iff.1 h.2.2⟩
theorem Clause.ok_parts {t:Clause} (h:t.ok):t.pats.length≤900000∧(∀ x∈t.pats,x.ok)∧t.rhs.length≤900000∧∀ x∈t.rhs,x.ok:=by
 cases t;unfold Clause.ok at h;exact⟨h.1,Pat.oks_iff.1 h.2.1,h.2.2.1,Rhs.oks_iff.1 h.2.2.2⟩
theorem Bnd.ok_cls {t:Bnd} (h:t.ok):t.cls.length≤900000∧∀ x∈t.cls,x.ok:=by
 cases t
 unfold Bnd.ok at h
 refine⟨by simp[Bnd.cls,Bnd.cl,Bnd.cs];have:=h.2.1;omega,fun x hx=>?_⟩
 simp only[Bnd.cls,Bnd.cl,Bnd.cs,List.mem_cons] at hx
 rcases hx with rfl|hx
 ·exact h.1
 ·exact Clause.oks_iff.1 h.2.2 x hx
theorem Ty.size {t x:Ty} (h:x∈t.args):SizeOf.sizeOf x<SizeOf.sizeOf t:=by
 cases t;have:=List.sizeOf_lt_of_mem h;simp only[Ty.args] at this;simp;omega
theorem Pat.size {t x:Pat} (h:x∈t.args):SizeOf.sizeOf x<SizeOf.sizeOf t:=by
 cases t;have:=List.sizeOf_lt_of_mem h;simp only[Pat.args] at this;simp;omega
theorem Xp.size {t x:Xp} (h:x∈t.args):SizeOf.sizeOf x<SizeOf.sizeOf t:=by
 cases t with
 | app a b l c=>simp only[Xp.args,List.mem_cons,List.not_mem_nil,or_false] at h;rcases h with rfl|rfl<;>simp<;>omega
 | row a ops =>
  simp only[Xp.args,List.mem_cons,List.mem_map] at h
  rcases h with rfl|⟨o,ho,rfl⟩
  ·simp;omega
  ·have:=List.sizeOf_lt_of_mem ho
   cases o;simp only[Rop.x];simp at this ⊢;omega
 | gen k nm n ps as al bs l c=>have:=List.sizeOf_lt_of_mem h;simp only[Xp.args] at this;simp;omega
theorem Xp.size_alt {t:Xp} {x} (h:x∈t.alts):SizeOf.sizeOf x<SizeOf.sizeOf t:=by
 cases t with
 | gen k nm n ps as al bs l c=>have:=List.sizeOf_lt_of_mem h;simp only[Xp.alts] at this;simp;omega
 | _=>cases h
theorem Xp.size_bind {t:Xp} {x} (h:x∈t.binds):SizeOf.sizeOf x<SizeOf.sizeOf t:=by
 cases t with
 | gen k nm n ps as al bs l c=>have:=List.sizeOf_lt_of_mem h;simp only[Xp.binds] at this;simp;omega
 | _=>cases h
theorem Rhs.size_guard {t:Rhs} {x} (h:x∈t.guard):SizeOf.sizeOf x<SizeOf.sizeOf t:=by
 cases t;have:=List.sizeOf_lt_of_mem h;simp only[Rhs.guard] at this;simp;omega
theorem Rhs.size_body {t:Rhs}:SizeOf.sizeOf t.body<SizeOf.sizeOf t:=by
 cases t;simp[Rhs.body];omega
theorem Alt.size {t:Alt} {x} (h:x∈t.rhs):SizeOf.sizeOf x<SizeOf.sizeOf t:=by
 cases t;have:=List.sizeOf_lt_of_mem h;simp only[Alt.rhs] at this;simp;omega
theorem Clause.size {t:Clause} {x} (h:x∈t.rhs):SizeOf.sizeOf x<SizeOf.sizeOf t:=by
 cases t;have:=List.sizeOf_lt_of_mem h;simp only[Clause.rhs] at this;simp;omega
theorem Bnd.size {t:Bnd} {x} (h:x∈t.cls):SizeOf.sizeOf x<SizeOf.sizeOf t:=by
 cases t
 simp only[Bnd.cls,Bnd.cl,Bnd.cs,List.mem_cons] at h
 rcases h with rfl|h
 ·simp;omega
 ·have:=List.sizeOf_lt_of_mem h;simp;omega
theorem Xp.kinds (e:Xp):e.kind = -1∨e.kind=0∨e.kind=1∨e.kind=2∨e.kind=3∨e.kind=4∨e.kind=5∨e.kind=6∨e.kind=7∨e.kind=8:=by
 cases e with
 | app a b l c=>simp[Xp.kind]
 | row a ops=>simp[Xp.kind]
 | gen k nm n ps as al bs l c=>cases k<;>simp[Xp.kind,GK.int']
theorem Xp.bvs_eq {e:Xp} (h:e.kind ≠ -1):e.bvs=e.binds.map Bnd.av:=by
 cases e with
 | app a b l c=>rfl
 | row a ops=>exact absurd rfl h
 | gen k nm n ps as al bs l c=>rfl
theorem Xp.app_args {e:Xp} (h:e.kind=4):∃ a b,e.args=[a,b]:=by
 cases e with
 | app a b l c=>exact⟨a,b,rfl⟩
 | row a ops=>cases h
 | gen k nm n ps as al bs l c=>cases k<;>cases h
theorem FixT.av_eq (f:FixT):f.av=.agg [.s f.op,.i .i64 f.assoc,.i .i64 f.level,.i .i64 f.l,.i .i64 f.c]:=(rfl)
theorem Ty.cells_eq (t:Ty):t.av.cells=[.i .i64 t.kind,.i .i64 t.n,.s t.name,lst (.st 4) (t.args.map Ty.av)]:=by rw[Ty.av_eq];rfl
theorem Ty.fold (t:Ty):AV.agg [.i .i64 t.kind,.i .i64 t.n,.s t.name,lst (.st 4) (t.args.map Ty.av)]=t.av:=(Ty.av_eq t).symm
theorem Ty.fld {k el} (t:Ty):afld k el t.av=el.get [.i .i64 t.kind,.i .i64 t.n,.s t.name,lst (.st 4) (t.args.map Ty.av)] k:=by rw[Ty.av_eq];rfl
theorem Ty.low {n} (t:Ty):t.av.low n=true:=by rw[Ty.av_eq];simp[low_agg,lowL_cons,lowL_nil,lst_low,low_i,low_s]
theorem Ty.alow {n} (t:Ty):t.av.alow n=true:=by rw[Ty.av_eq];simp[alow_agg,alowL_cons,alowL_nil,lst_alow,alow_i,alow_s]
attribute [go_sem] Ty.cells_eq Ty.fold Ty.fld Ty.low Ty.alow
theorem Pat.cells_eq (p:Pat):p.av.cells=[.i .i64 p.kind,.s p.name,.i .i64 p.n,lst (.st 6) (p.args.map Pat.av),.i .i64 p.l,.i .i64 p.c]:=by rw[Pat.av_eq];rfl
theorem Pat.fold (p:Pat):AV.agg [.i .i64 p.kind,.s p.name,.i .i64 p.n,lst (.st 6) (p.args.map Pat.av),.i .i64 p.l,.i .i64 p.c]=p.av:=(Pat.av_eq p).symm
theorem Pat.fld {k el} (p:Pat):afld k el p.av=el.get [.i .i64 p.kind,.s p.name,.i .i64 p.n,lst (.st 6) (p.args.map Pat.av),.i .i64 p.l,.i .i64 p.c] k:=by rw[Pat.av_eq];rfl
theorem Pat.low {n} (p:Pat):p.av.low n=true:=by rw[Pat.av_eq];simp[low_agg,lowL_cons,lowL_nil,lst_low,low_i,low_s]
theorem Pat.alow {n} (p:Pat):p.av.alow n=true:=by rw[Pat.av_eq];simp[alow_agg,alowL_cons,alowL_nil,lst_alow,alow_i,alow_s]
attribute [go_sem] Pat.cells_eq Pat.fold Pat.fld Pat.low Pat.alow
theorem Xp.cells_eq (e:Xp):e.av.cells=[.i .i64 e.kind,.s e.name,.i .i64 e.n,lst .one (strs e.params),lst (.st 9) (e.args.map Xp.av),lst (.st 7) (e.alts.map Alt.av),lst (.st 4) e.bvs,.i .i64 e.l,.i .i64 e.c]:=by rw[Xp.av_eq];rfl
theorem Xp.fold (e:Xp):AV.agg [.i .i64 e.kind,.s e.name,.i .i64 e.n,lst .one (strs e.params),lst (.st 9) (e.args.map Xp.av),lst (.st 7) (e.alts.map Alt.av),lst (.st 4) e.bvs,.i .i64 e.l,.i .i64 e.c]=e.av:=(Xp.av_eq e).symm
theorem Xp.fld {k el} (e:Xp):afld k el e.av=el.get [.i .i64 e.kind,.s e.name,.i .i64 e.n,lst .one (strs e.params),lst (.st 9) (e.args.map Xp.av),lst (.st 7) (e.alts.map Alt.av),lst (.st 4) e.bvs,.i .i64 e.l,.i .i64 e.c] k:=by rw[Xp.av_eq];rfl
theorem Xp.low {n} (e:Xp):e.av.low n=true:=by rw[Xp.av_eq];simp[low_agg,lowL_cons,lowL_nil,lst_low,low_i,low_s]
theorem Xp.alow {n} (e:Xp):e.av.alow n=true:=by rw[Xp.av_eq];simp[alow_agg,alowL_cons,alowL_nil,lst_alow,alow_i,alow_s]
attribute [go_sem] Xp.cells_eq Xp.fold Xp.fld Xp.low Xp.alow
theorem Rhs.cells_eq (r:Rhs):r.av.cells=[lst (.st 9) (r.guard.map Xp.av),.i .i64 r.body.kind,.s r.body.name,.i .i64 r.body.n,lst .one (strs r.body.params),lst (.st 9) (r.body.args.map Xp.av),lst (.st 7) (r.body.alts.map Alt.av),lst (.st 4) r.body.bvs,.i .i64 r.body.l,.i .i64 r.body.c]:=by rw[Rhs.av_eq];rfl
theorem Rhs.fold (r:Rhs):AV.agg [lst (.st 9) (r.guard.map Xp.av),.i .i64 r.body.kind,.s r.body.name,.i .i64 r.body.n,lst .one (strs r.body.params),lst (.st 9) (r.body.args.map Xp.av),lst (.st 7) (r.body.alts.map Alt.av),lst (.st 4) r.body.bvs,.i .i64 r.body.l,.i .i64 r.body.c]=r.av:=(Rhs.av_eq r).symm
theorem Rhs.fld {k el} (r:Rhs):afld k el r.av=el.get [lst (.st 9) (r.guard.map Xp.av),.i .i64 r.body.kind,.s r.body.name,.i .i64 r.body.n,lst .one (strs r.body.params),lst (.st 9) (r.body.args.map Xp.av),lst (.st 7) (r.body.alts.map Alt.av),lst (.st 4) r.body.bvs,.i .i64 r.body.l,.i .i64 r.body.c] k:=by rw[Rhs.av_eq];rfl
theorem Rhs.low {n} (r:Rhs):r.av.low n=true:=by rw[Rhs.av_eq];simp[low_agg,lowL_cons,lowL_nil,lst_low,low_i,low_s]
theorem Rhs.alow {n} (r:Rhs):r.av.alow n=true:=by rw[Rhs.av_eq];simp[alow_agg,alowL_cons,alowL_nil,lst_alow,alow_i,alow_s]
attribute [go_sem] Rhs.cells_eq Rhs.fold Rhs.fld Rhs.low Rhs.alow
theorem Alt.cells_eq (a:Alt):a.av.cells=[.i .i64 a.pat.kind,.s a.pat.name,.i .i64 a.pat.n,lst (.st 6) (a.pat.args.map Pat.av),.i .i64 a.pat.l,.i .i64 a.pat.c,lst (.st 10) (a.rhs.map Rhs.av)]:=by rw[Alt.av_eq];rfl
theorem Alt.fold (a:Alt):AV.agg [.i .i64 a.pat.kind,.s a.pat.name,.i .i64 a.pat.n,lst (.st 6) (a.pat.args.map Pat.av),.i .i64 a.pat.l,.i .i64 a.pat.c,lst (.st 10) (a.rhs.map Rhs.av)]=a.av:=(Alt.av_eq a).symm
theorem Alt.fld {k el} (a:Alt):afld k el a.av=el.get [.i .i64 a.pat.kind,.s a.pat.name,.i .i64 a.pat.n,lst (.st 6) (a.pat.args.map Pat.av),.i .i64 a.pat.l,.i .i64 a.pat.c,lst (.st 10) (a.rhs.map Rhs.av)] k:=by rw[Alt.av_eq];rfl
theorem Alt.low {n} (a:Alt):a.av.low n=true:=by rw[Alt.av_eq];simp[low_agg,lowL_cons,lowL_nil,lst_low,low_i,low_s]
theorem Alt.alow {n} (a:Alt):a.av.alow n=true:=by rw[Alt.av_eq];simp[alow_agg,alowL_cons,alowL_nil,lst_alow,alow_i,alow_s]
attribute [go_sem] Alt.cells_eq Alt.fold Alt.fld Alt.low Alt.alow
theorem Clause.cells_eq (c:Clause):c.av.cells=[lst (.st 6) (c.pats.map Pat.av),lst (.st 10) (c.rhs.map Rhs.av)]:=by rw[Clause.av_eq];rfl
theorem Clause.fold (c:Clause):AV.agg [lst (.st 6) (c.pats.map Pat.av),lst (.st 10) (c.rhs.map Rhs.av)]=c.av:=(Clause.av_eq c).symm
theorem Clause.fld {k el} (c:Clause):afld k el c.av=el.get [lst (.st 6) (c.pats.map Pat.av),lst (.st 10) (c.rhs.map Rhs.av)] k:=by rw[Clause.av_eq];rfl
theorem Clause.low {n} (c:Clause):c.av.low n=true:=by rw[Clause.av_eq];simp[low_agg,lowL_cons,lowL_nil,lst_low,low_i,low_s]
theorem Clause.alow {n} (c:Clause):c.av.alow n=true:=by rw[Clause.av_eq];simp[alow_agg,alowL_cons,alowL_nil,lst_alow,alow_i,alow_s]
attribute [go_sem] Clause.cells_eq Clause.fold Clause.fld Clause.low Clause.alow
theorem Bnd.cells_eq (b:Bnd):b.av.cells=[.s b.name,lst (.st 2) (b.cls.map Clause.av),.i .i64 b.l,.i .i64 b.c]:=by rw[Bnd.av_eq];rfl
theorem Bnd.fold (b:Bnd):AV.agg [.s b.name,lst (.st 2) (b.cls.map Clause.av),.i .i64 b.l,.i .i64 b.c]=b.av:=(Bnd.av_eq b).symm
theorem Bnd.fld {k el} (b:Bnd):afld k el b.av=el.get [.s b.name,lst (.st 2) (b.cls.map Clause.av),.i .i64 b.l,.i .i64 b.c] k:=by rw[Bnd.av_eq];rfl
theorem Bnd.low {n} (b:Bnd):b.av.low n=true:=by rw[Bnd.av_eq];simp[low_agg,lowL_cons,lowL_nil,lst_low,low_i,low_s]
theorem Bnd.alow {n} (b:Bnd):b.av.alow n=true:=by rw[Bnd.av_eq];simp[alow_agg,alowL_cons,alowL_nil,lst_alow,alow_i,alow_s]
attribute [go_sem] Bnd.cells_eq Bnd.fold Bnd.fld Bnd.low Bnd.alow
theorem Data.cells_eq (d:Data):d.av.cells=[.s d.name,lst .one (strs d.params),lst (.st 4) (d.cons.map Constr.av),.i .i64 d.l,.i .i64 d.c]:=by rw[Data.av_eq];rfl
theorem Data.fold (d:Data):AV.agg [.s d.name,lst .one (strs d.params),lst (.st 4) (d.cons.map Constr.av),.i .i64 d.l,.i .i64 d.c]=d.av:=(Data.av_eq d).symm
theorem Data.fld {k el} (d:Data):afld k el d.av=el.get [.s d.name,lst .one (strs d.params),lst (.st 4) (d.cons.map Constr.av),.i .i64 d.l,.i .i64 d.c] k:=by rw[Data.av_eq];rfl
theorem Data.low {n} (d:Data):d.av.low n=true:=by rw[Data.av_eq];simp[low_agg,lowL_cons,lowL_nil,lst_low,low_i,low_s]
theorem Data.alow {n} (d:Data):d.av.alow n=true:=by rw[Data.av_eq];simp[alow_agg,alowL_cons,alowL_nil,lst_alow,alow_i,alow_s]
attribute [go_sem] Data.cells_eq Data.fold Data.fld Data.low Data.alow
theorem Constr.cells_eq (c:Constr):c.av.cells=[.s c.name,lst (.st 4) (c.fields.map Ty.av),.i .i64 c.l,.i .i64 c.c]:=by rw[Constr.av_eq];rfl
theorem Constr.fold (c:Constr):AV.agg [.s c.name,lst (.st 4) (c.fields.map Ty.av),.i .i64 c.l,.i .i64 c.c]=c.av:=(Constr.av_eq c).symm
theorem Constr.fld {k el} (c:Constr):afld k el c.av=el.get [.s c.name,lst (.st 4) (c.fields.map Ty.av),.i .i64 c.l,.i .i64 c.c] k:=by rw[Constr.av_eq];rfl
theorem Constr.low {n} (c:Constr):c.av.low n=true:=by rw[Constr.av_eq];simp[low_agg,lowL_cons,lowL_nil,lst_low,low_i,low_s]
theorem Constr.alow {n} (c:Constr):c.av.alow n=true:=by rw[Constr.av_eq];simp[alow_agg,alowL_cons,alowL_nil,lst_alow,alow_i,alow_s]
attribute [go_sem] Constr.cells_eq Constr.fold Constr.fld Constr.low Constr.alow
theorem FixT.cells_eq (f:FixT):f.av.cells=[.s f.op,.i .i64 f.assoc,.i .i64 f.level,.i .i64 f.l,.i .i64 f.c]:=by rw[FixT.av_eq];rfl
theorem FixT.fold (f:FixT):AV.agg [.s f.op,.i .i64 f.assoc,.i .i64 f.level,.i .i64 f.l,.i .i64 f.c]=f.av:=(FixT.av_eq f).symm
theorem FixT.fld {k el} (f:FixT):afld k el f.av=el.get [.s f.op,.i .i64 f.assoc,.i .i64 f.level,.i .i64 f.l,.i .i64 f.c] k:=by rw[FixT.av_eq];rfl
theorem FixT.low {n} (f:FixT):f.av.low n=true:=by rw[FixT.av_eq];simp[low_agg,lowL_cons,lowL_nil,lst_low,low_i,low_s]
theorem FixT.alow {n} (f:FixT):f.av.alow n=true:=by rw[FixT.av_eq];simp[alow_agg,alowL_cons,alowL_nil,lst_alow,alow_i,alow_s]
attribute [go_sem] FixT.cells_eq FixT.fold FixT.fld FixT.low FixT.alow
theorem ele_frz {n k x s} (h:Ele (.st k) x):Am.frz (n+2) x s=some (x,s):=by
 obtain⟨cs,rfl,hl⟩:=h.agg
 rw[frz_agg,scals_frz (show cs.all AV.scal=true from h.scal)]
 rfl
theorem Ty.frz {n s} (x:Ty):Am.frz (n+2) x.av s=some (x.av,s):=ele_frz x.ele
theorem Pat.frz {n s} (x:Pat):Am.frz (n+2) x.av s=some (x.av,s):=ele_frz x.ele
theorem Xp.frz {n s} (x:Xp):Am.frz (n+2) x.av s=some (x.av,s):=ele_frz x.ele
theorem Rhs.frz {n s} (x:Rhs):Am.frz (n+2) x.av s=some (x.av,s):=ele_frz x.ele
theorem Alt.frz {n s} (x:Alt):Am.frz (n+2) x.av s=some (x.av,s):=ele_frz x.ele
theorem Clause.frz {n s} (x:Clause):Am.frz (n+2) x.av s=some (x.av,s):=ele_frz x.ele
theorem Bnd.frz {n s} (x:Bnd):Am.frz (n+2) x.av s=some (x.av,s):=ele_frz x.ele
theorem Data.frz {n s} (x:Data):Am.frz (n+2) x.av s=some (x.av,s):=ele_frz x.ele
theorem Constr.frz {n s} (x:Constr):Am.frz (n+2) x.av s=some (x.av,s):=ele_frz x.ele
theorem FixT.frz {n s} (x:FixT):Am.frz (n+2) x.av s=some (x.av,s):=ele_frz x.ele
theorem Con.ele (t:Con):Ele (.st 5) t.av:=ele_of t.av_eq t.fin rfl (by simp[AV.flatc,flatc_lst])
theorem Con.frz {n s} (x:Con):Am.frz (n+2) x.av s=some (x.av,s):=ele_frz x.ele
attribute [go_sem] Ty.frz Pat.frz Xp.frz Rhs.frz Alt.frz Clause.frz Bnd.frz Data.frz Constr.frz FixT.frz Con.frz
end Go.Am
namespace Go.Am
open Go
theorem allPat_tot (xs:List AV) (hx:∀ x∈xs,Ele (.st 6) x) (hl:xs.length≤1000000) (g:Nat) (caps:List AV) (s:St) (hlo:∀ n,AV.lowL n caps=true) (hf:∀ x∈xs,∀ s,∃ b,C F0 X0 g (x::caps) s=some (.b b,s)):∃ b,C F0 X0 75 [lst (.st 6) xs,.clo g caps] s=some (.b b,s):=by
 suffices h:W (C F0 X0 75 [lst (.st 6) xs,.clo g caps] s) fun q=>∃ b,q=(.b b,s) by
  obtain⟨r,h1,b,rfl⟩:=h;exact⟨b,h1⟩
 rw[w_call (f:=75) rfl]
 simp only[go_sem,reduceCtorEq,↓reduceIte,nA,nB,nC,nD,nE,iA,iB,iC,iD,iE,iF]
 refine W.step (W.range (n:=xs.length) (Q:=fun q=>(∃ e,q=(.exit 0,e,s))∨∃ b e,get e 4=some (.b b)∧q=(.ret,e,s)) (L:=l75_0) rfl (fun i e t=>e=[(1,.clo g caps),(7,lst (.st 6) xs),(8,.i .i64 (xs.length:Int)),(9,.i .i64 (i:Int))]∧t=s) ?_ ?_ 0 _ _ (Nat.zero_le _) ⟨rfl,rfl⟩) ?_
 ·rintro i e t ⟨rfl,rfl⟩ hi
  have h1:=List.getElem?_eq_getElem hi
  obtain⟨cs,hcs,hlen⟩:=(hx _ (List.getElem_mem hi)).agg
  obtain⟨b,hb⟩:=hf _ (List.getElem_mem hi) (ex t [.cells cs])
  rw[hcs] at h1 hb
  have h2:∀ k,aiad (.st 6) (lst (.st 6) xs) (.i k (i:Int))=some (.ep cs 0):=fun k=>lst_iad (x:=.agg cs) rfl h1
  have h4:cs.take 6=cs:=List.take_of_length_le (by omega)
  have h3:decide ((i:Int)<(xs.length:Int))=true:=by simp;omega
  have h5:=@wrap_one i (by omega)
  simp only[go_sem,reduceCtorEq,↓reduceIte,nA,nB,nC,nD,nE,iA,iB,iC,iD,iE,iF,h2,h3,h4,h5,hlen,hb,Nat.le_refl,hlo]
  refine W.ifc (fun h=>?_) (fun h=>?_)
  ·simp only[go_sem,reduceCtorEq,↓reduceIte,nA,nB,nC,nD,nE,iA,iB,iC,iD,iE,iF,h,h5,hlo]
  ·simp only[go_sem,reduceCtorEq,↓reduceIte,nA,nB,nC,nD,nE,iA,iB,iC,iD,iE,iF,h,h5,hlo]
   exact .inr ⟨_,_,rfl,rfl⟩
 ·rintro e t ⟨rfl,rfl⟩
  have h3:decide ((xs.length:Int)<(xs.length:Int))=false:=by simp
  simp only[go_sem,reduceCtorEq,↓reduceIte,nA,nB,nC,nD,nE,iA,iB,iC,iD,iE,iF,h3,hlo]
  exact .inl ⟨_,rfl⟩
 ·rintro q (⟨e,rfl⟩|⟨b,e,h4,rfl⟩)
  ·simp only[go_sem,reduceCtorEq,↓reduceIte,nA,nB,nC,nD,nE,iA,iB,iC,iD,iE,iF]
   exact⟨_,rfl⟩
  ·simp only[go_sem,reduceCtorEq,↓reduceIte,nA,nB,nC,nD,nE,iA,iB,iC,iD,iE,iF,h4]
   exact⟨_,rfl⟩
theorem allData_tot (xs:List AV) (hx:∀ x∈xs,Ele (.st 5) x) (hl:xs.length≤1000000) (g:Nat) (caps:List AV) (s:St) (hlo:∀ n,AV.lowL n caps=true) (hf:∀ x∈xs,∀ s,∃ b,C F0 X0 g (x::caps) s=some (.b b,s)):∃ b,C F0 X0 36 [lst (.st 5) xs,.clo g caps] s=some (.b b,s):=by
 suffices h:W (C F0 X0 36 [lst (.st 5) xs,.clo g caps] s) fun q=>∃ b,q=(.b b,s) by
  obtain⟨r,h1,b,rfl⟩:=h;exact⟨b,h1⟩
 rw[w_call (f:=36) rfl]
 simp only[go_sem,reduceCtorEq,↓reduceIte,nA,nB,nC,nD,nE,iA,iB,iC,iD,iE,iF]
 refine W.step (W.range (n:=xs.length) (Q:=fun q=>(∃ e,q=(.exit 0,e,s))∨∃ b e,get e 4=some (.b b)∧q=(.ret,e,s)) (L:=l36_0) rfl (fun i e t=>e=[(1,.clo g caps),(7,lst (.st 5) xs),(8,.i .i64 (xs.length:Int)),(9,.i .i64 (i:Int))]∧t=s) ?_ ?_ 0 _ _ (Nat.zero_le _) ⟨rfl,rfl⟩) ?_
 ·rintro i e t ⟨rfl,rfl⟩ hi
  have h1:=List.getElem?_eq_getElem hi
  obtain⟨cs,hcs,hlen⟩:=(hx _ (List.getElem_mem hi)).agg
  obtain⟨b,hb⟩:=hf _ (List.getElem_mem hi) (ex t [.cells cs])
  rw[hcs] at h1 hb
  have h2:∀ k,aiad (.st 5) (lst (.st 5) xs) (.i k (i:Int))=some (.ep cs 0):=fun k=>lst_iad (x:=.agg cs) rfl h1
  have h4:cs.take 5=cs:=List.take_of_length_le (by omega)
  have h3:decide ((i:Int)<(xs.length:Int))=true:=by simp;omega
  have h5:=@wrap_one i (by omega)
  simp only[go_sem,reduceCtorEq,↓reduceIte,nA,nB,nC,nD,nE,iA,iB,iC,iD,iE,iF,h2,h3,h4,h5,hlen,hb,Nat.le_refl,hlo]
  refine W.ifc (fun h=>?_) (fun h=>?_)
  ·simp only[go_sem,reduceCtorEq,↓reduceIte,nA,nB,nC,nD,nE,iA,iB,iC,iD,iE,iF,h,h5,hlo]
  ·simp only[go_sem,reduceCtorEq,↓reduceIte,nA,nB,nC,nD,nE,iA,iB,iC,iD,iE,iF,h,h5,hlo]
   exact .inr ⟨_,_,rfl,rfl⟩
 ·rintro e t ⟨rfl,rfl⟩
  have h3:decide ((xs.length:Int)<(xs.length:Int))=false:=by simp
  simp only[go_sem,reduceCtorEq,↓reduceIte,nA,nB,nC,nD,nE,iA,iB,iC,iD,iE,iF,h3,hlo]
  exact .inl ⟨_,rfl⟩
 ·rintro q (⟨e,rfl⟩|⟨b,e,h4,rfl⟩)
  ·simp only[go_sem,reduceCtorEq,↓reduceIte,nA,nB,nC,nD,nE,iA,iB,iC,iD,iE,iF]
   exact⟨_,rfl⟩
  ·simp only[go_sem,reduceCtorEq,↓reduceIte,nA,nB,nC,nD,nE,iA,iB,iC,iD,iE,iF,h4]
   exact⟨_,rfl⟩
theorem allFix_tot (xs:List AV) (hx:∀ x∈xs,Ele (.st 5) x) (hl:xs.length≤1000000) (g:Nat) (caps:List AV) (s:St) (hlo:∀ n,AV.lowL n caps=true) (hf:∀ x∈xs,∀ s,∃ b,C F0 X0 g (x::caps) s=some (.b b,s)):∃ b,C F0 X0 38 [lst (.st 5) xs,.clo g caps] s=some (.b b,s):=by
 suffices h:W (C F0 X0 38 [lst (.st 5) xs,.clo g caps] s) fun q=>∃ b,q=(.b b,s) by
  obtain⟨r,h1,b,rfl⟩:=h;exact⟨b,h1⟩
 rw[w_call (f:=38) rfl]
 simp only[go_sem,reduceCtorEq,↓reduceIte,nA,nB,nC,nD,nE,iA,iB,iC,iD,iE,iF]
 refine W.step (W.range (n:=xs.length) (Q:=fun q=>(∃ e,q=(.exit 0,e,s))∨∃ b e,get e 4=some (.b b)∧q=(.ret,e,s)) (L:=l38_0) rfl (fun i e t=>e=[(1,.clo g caps),(7,lst (.st 5) xs),(8,.i .i64 (xs.length:Int)),(9,.i .i64 (i:Int))]∧t=s) ?_ ?_ 0 _ _ (Nat.zero_le _) ⟨rfl,rfl⟩) ?_
 ·rintro i e t ⟨rfl,rfl⟩ hi
  have h1:=List.getElem?_eq_getElem hi
  obtain⟨cs,hcs,hlen⟩:=(hx _ (List.getElem_mem hi)).agg
  obtain⟨b,hb⟩:=hf _ (List.getElem_mem hi) (ex t [.cells cs])
  rw[hcs] at h1 hb
  have h2:∀ k,aiad (.st 5) (lst (.st 5) xs) (.i k (i:Int))=some (.ep cs 0):=fun k=>lst_iad (x:=.agg cs) rfl h1
  have h4:cs.take 5=cs:=List.take_of_length_le (by omega)
  have h3:decide ((i:Int)<(xs.length:Int))=true:=by simp;omega
  have h5:=@wrap_one i (by omega)
  simp only[go_sem,reduceCtorEq,↓reduceIte,nA,nB,nC,nD,nE,iA,iB,iC,iD,iE,iF,h2,h3,h4,h5,hlen,hb,Nat.le_refl,hlo]
  refine W.ifc (fun h=>?_) (fun h=>?_)
  ·simp only[go_sem,reduceCtorEq,↓reduceIte,nA,nB,nC,nD,nE,iA,iB,iC,iD,iE,iF,h,h5,hlo]
  ·simp only[go_sem,reduceCtorEq,↓reduceIte,nA,nB,nC,nD,nE,iA,iB,iC,iD,iE,iF,h,h5,hlo]
   exact .inr ⟨_,_,rfl,rfl⟩
 ·rintro e t ⟨rfl,rfl⟩
  have h3:decide ((xs.length:Int)<(xs.length:Int))=false:=by simp
  simp only[go_sem,reduceCtorEq,↓reduceIte,nA,nB,nC,nD,nE,iA,iB,iC,iD,iE,iF,h3,hlo]
  exact .inl ⟨_,rfl⟩
 ·rintro q (⟨e,rfl⟩|⟨b,e,h4,rfl⟩)
  ·simp only[go_sem,reduceCtorEq,↓reduceIte,nA,nB,nC,nD,nE,iA,iB,iC,iD,iE,iF]
   exact⟨_,rfl⟩
  ·simp only[go_sem,reduceCtorEq,↓reduceIte,nA,nB,nC,nD,nE,iA,iB,iC,iD,iE,iF,h4]
   exact⟨_,rfl⟩
theorem allCon_tot (xs:List AV) (hx:∀ x∈xs,Ele (.st 4) x) (hl:xs.length≤1000000) (g:Nat) (caps:List AV) (s:St) (hlo:∀ n,AV.lowL n caps=true) (hf:∀ x∈xs,∀ s,∃ b,C F0 X0 g (x::caps) s=some (.b b,s)):∃ b,C F0 X0 70 [lst (.st 4) xs,.clo g caps] s=some (.b b,s):=by
 suffices h:W (C F0 X0 70 [lst (.st 4) xs,.clo g caps] s) fun q=>∃ b,q=(.b b,s) by
  obtain⟨r,h1,b,rfl⟩:=h;exact⟨b,h1⟩
 rw[w_call (f:=70) rfl]
 simp only[go_sem,reduceCtorEq,↓reduceIte,nA,nB,nC,nD,nE,iA,iB,iC,iD,iE,iF]
 refine W.step (W.range (n:=xs.length) (Q:=fun q=>(∃ e,q=(.exit 0,e,s))∨∃ b e,get e 4=some (.b b)∧q=(.ret,e,s)) (L:=l70_0) rfl (fun i e t=>e=[(1,.clo g caps),(7,lst (.st 4) xs),(8,.i .i64 (xs.length:Int)),(9,.i .i64 (i:Int))]∧t=s) ?_ ?_ 0 _ _ (Nat.zero_le _) ⟨rfl,rfl⟩) ?_
 ·rintro i e t ⟨rfl,rfl⟩ hi
  have h1:=List.getElem?_eq_getElem hi
  obtain⟨cs,hcs,hlen⟩:=(hx _ (List.getElem_mem hi)).agg
  obtain⟨b,hb⟩:=hf _ (List.getElem_mem hi) (ex t [.cells cs])
  rw[hcs] at h1 hb
  have h2:∀ k,aiad (.st 4) (lst (.st 4) xs) (.i k (i:Int))=some (.ep cs 0):=fun k=>lst_iad (x:=.agg cs) rfl h1
  have h4:cs.take 4=cs:=List.take_of_length_le (by omega)
  have h3:decide ((i:Int)<(xs.length:Int))=true:=by simp;omega
  have h5:=@wrap_one i (by omega)
  simp only[go_sem,reduceCtorEq,↓reduceIte,nA,nB,nC,nD,nE,iA,iB,iC,iD,iE,iF,h2,h3,h4,h5,hlen,hb,Nat.le_refl,hlo]
  refine W.ifc (fun h=>?_) (fun h=>?_)
  ·simp only[go_sem,reduceCtorEq,↓reduceIte,nA,nB,nC,nD,nE,iA,iB,iC,iD,iE,iF,h,h5,hlo]
  ·simp only[go_sem,reduceCtorEq,↓reduceIte,nA,nB,nC,nD,nE,iA,iB,iC,iD,iE,iF,h,h5,hlo]
   exact .inr ⟨_,_,rfl,rfl⟩
 ·rintro e t ⟨rfl,rfl⟩
  have h3:decide ((xs.length:Int)<(xs.length:Int))=false:=by simp
  simp only[go_sem,reduceCtorEq,↓reduceIte,nA,nB,nC,nD,nE,iA,iB,iC,iD,iE,iF,h3,hlo]
  exact .inl ⟨_,rfl⟩
 ·rintro q (⟨e,rfl⟩|⟨b,e,h4,rfl⟩)
  ·simp only[go_sem,reduceCtorEq,↓reduceIte,nA,nB,nC,nD,nE,iA,iB,iC,iD,iE,iF]
   exact⟨_,rfl⟩
  ·simp only[go_sem,reduceCtorEq,↓reduceIte,nA,nB,nC,nD,nE,iA,iB,iC,iD,iE,iF,h4]
   exact⟨_,rfl⟩
theorem allTy_tot (xs:List AV) (hx:∀ x∈xs,Ele (.st 4) x) (hl:xs.length≤1000000) (g:Nat) (caps:List AV) (s:St) (hlo:∀ n,AV.lowL n caps=true) (hf:∀ x∈xs,∀ s,∃ b,C F0 X0 g (x::caps) s=some (.b b,s)):∃ b,C F0 X0 72 [lst (.st 4) xs,.clo g caps] s=some (.b b,s):=by
 suffices h:W (C F0 X0 72 [lst (.st 4) xs,.clo g caps] s) fun q=>∃ b,q=(.b b,s) by
  obtain⟨r,h1,b,rfl⟩:=h;exact⟨b,h1⟩
 rw[w_call (f:=72) rfl]
 simp only[go_sem,reduceCtorEq,↓reduceIte,nA,nB,nC,nD,nE,iA,iB,iC,iD,iE,iF]
 refine W.step (W.range (n:=xs.length) (Q:=fun q=>(∃ e,q=(.exit 0,e,s))∨∃ b e,get e 4=some (.b b)∧q=(.ret,e,s)) (L:=l72_0) rfl (fun i e t=>e=[(1,.clo g caps),(7,lst (.st 4) xs),(8,.i .i64 (xs.length:Int)),(9,.i .i64 (i:Int))]∧t=s) ?_ ?_ 0 _ _ (Nat.zero_le _) ⟨rfl,rfl⟩) ?_
 ·rintro i e t ⟨rfl,rfl⟩ hi
  have h1:=List.getElem?_eq_getElem hi
  obtain⟨cs,hcs,hlen⟩:=(hx _ (List.getElem_mem hi)).agg
  obtain⟨b,hb⟩:=hf _ (List.getElem_mem hi) (ex t [.cells cs])
  rw[hcs] at h1 hb
  have h2:∀ k,aiad (.st 4) (lst (.st 4) xs) (.i k (i:Int))=some (.ep cs 0):=fun k=>lst_iad (x:=.agg cs) rfl h1
  have h4:cs.take 4=cs:=List.take_of_length_le (by omega)
  have h3:decide ((i:Int)<(xs.length:Int))=true:=by simp;omega
  have h5:=@wrap_one i (by omega)
  simp only[go_sem,reduceCtorEq,↓reduceIte,nA,nB,nC,nD,nE,iA,iB,iC,iD,iE,iF,h2,h3,h4,h5,hlen,hb,Nat.le_refl,hlo]
  refine W.ifc (fun h=>?_) (fun h=>?_)
  ·simp only[go_sem,reduceCtorEq,↓reduceIte,nA,nB,nC,nD,nE,iA,iB,iC,iD,iE,iF,h,h5,hlo]
  ·simp only[go_sem,reduceCtorEq,↓reduceIte,nA,nB,nC,nD,nE,iA,iB,iC,iD,iE,iF,h,h5,hlo]
   exact .inr ⟨_,_,rfl,rfl⟩
 ·rintro e t ⟨rfl,rfl⟩
  have h3:decide ((xs.length:Int)<(xs.length:Int))=false:=by simp
  simp only[go_sem,reduceCtorEq,↓reduceIte,nA,nB,nC,nD,nE,iA,iB,iC,iD,iE,iF,h3,hlo]
  exact .inl ⟨_,rfl⟩
 ·rintro q (⟨e,rfl⟩|⟨b,e,h4,rfl⟩)
  ·simp only[go_sem,reduceCtorEq,↓reduceIte,nA,nB,nC,nD,nE,iA,iB,iC,iD,iE,iF]
   exact⟨_,rfl⟩
  ·simp only[go_sem,reduceCtorEq,↓reduceIte,nA,nB,nC,nD,nE,iA,iB,iC,iD,iE,iF,h4]
   exact⟨_,rfl⟩
theorem allRhs_tot (xs:List AV) (hx:∀ x∈xs,Ele (.st 10) x) (hl:xs.length≤1000000) (g:Nat) (caps:List AV) (s:St) (hlo:∀ n,AV.lowL n caps=true) (hf:∀ x∈xs,∀ s,∃ b,C F0 X0 g (x::caps) s=some (.b b,s)):∃ b,C F0 X0 111 [lst (.st 10) xs,.clo g caps] s=some (.b b,s):=by
 suffices h:W (C F0 X0 111 [lst (.st 10) xs,.clo g caps] s) fun q=>∃ b,q=(.b b,s) by
  obtain⟨r,h1,b,rfl⟩:=h;exact⟨b,h1⟩
 rw[w_call (f:=111) rfl]
 simp only[go_sem,reduceCtorEq,↓reduceIte,nA,nB,nC,nD,nE,iA,iB,iC,iD,iE,iF]
 refine W.step (W.range (n:=xs.length) (Q:=fun q=>(∃ e,q=(.exit 0,e,s))∨∃ b e,get e 4=some (.b b)∧q=(.ret,e,s)) (L:=l111_0) rfl (fun i e t=>e=[(1,.clo g caps),(7,lst (.st 10) xs),(8,.i .i64 (xs.length:Int)),(9,.i .i64 (i:Int))]∧t=s) ?_ ?_ 0 _ _ (Nat.zero_le _) ⟨rfl,rfl⟩) ?_
 ·rintro i e t ⟨rfl,rfl⟩ hi
  have h1:=List.getElem?_eq_getElem hi
  obtain⟨cs,hcs,hlen⟩:=(hx _ (List.getElem_mem hi)).agg
  obtain⟨b,hb⟩:=hf _ (List.getElem_mem hi) (ex t [.cells cs])
  rw[hcs] at h1 hb
  have h2:∀ k,aiad (.st 10) (lst (.st 10) xs) (.i k (i:Int))=some (.ep cs 0):=fun k=>lst_iad (x:=.agg cs) rfl h1
  have h4:cs.take 10=cs:=List.take_of_length_le (by omega)
  have h3:decide ((i:Int)<(xs.length:Int))=true:=by simp;omega
  have h5:=@wrap_one i (by omega)
  simp only[go_sem,reduceCtorEq,↓reduceIte,nA,nB,nC,nD,nE,iA,iB,iC,iD,iE,iF,h2,h3,h4,h5,hlen,hb,Nat.le_refl,hlo]
  refine W.ifc (fun h=>?_) (fun h=>?_)
  ·simp only[go_sem,reduceCtorEq,↓reduceIte,nA,nB,nC,nD,nE,iA,iB,iC,iD,iE,iF,h,h5,hlo]
  ·simp only[go_sem,reduceCtorEq,↓reduceIte,nA,nB,nC,nD,nE,iA,iB,iC,iD,iE,iF,h,h5,hlo]
   exact .inr ⟨_,_,rfl,rfl⟩
 ·rintro e t ⟨rfl,rfl⟩
  have h3:decide ((xs.length:Int)<(xs.length:Int))=false:=by simp
  simp only[go_sem,reduceCtorEq,↓reduceIte,nA,nB,nC,nD,nE,iA,iB,iC,iD,iE,iF,h3,hlo]
  exact .inl ⟨_,rfl⟩
 ·rintro q (⟨e,rfl⟩|⟨b,e,h4,rfl⟩)
  ·simp only[go_sem,reduceCtorEq,↓reduceIte,nA,nB,nC,nD,nE,iA,iB,iC,iD,iE,iF]
   exact⟨_,rfl⟩
  ·simp only[go_sem,reduceCtorEq,↓reduceIte,nA,nB,nC,nD,nE,iA,iB,iC,iD,iE,iF,h4]
   exact⟨_,rfl⟩
theorem allExp_tot (xs:List AV) (hx:∀ x∈xs,Ele (.st 9) x) (hl:xs.length≤1000000) (g:Nat) (caps:List AV) (s:St) (hlo:∀ n,AV.lowL n caps=true) (hf:∀ x∈xs,∀ s,∃ b,C F0 X0 g (x::caps) s=some (.b b,s)):∃ b,C F0 X0 130 [lst (.st 9) xs,.clo g caps] s=some (.b b,s):=by
 suffices h:W (C F0 X0 130 [lst (.st 9) xs,.clo g caps] s) fun q=>∃ b,q=(.b b,s) by
  obtain⟨r,h1,b,rfl⟩:=h;exact⟨b,h1⟩
 rw[w_call (f:=130) rfl]
 simp only[go_sem,reduceCtorEq,↓reduceIte,nA,nB,nC,nD,nE,iA,iB,iC,iD,iE,iF]
 refine W.step (W.range (n:=xs.length) (Q:=fun q=>(∃ e,q=(.exit 0,e,s))∨∃ b e,get e 4=some (.b b)∧q=(.ret,e,s)) (L:=l130_0) rfl (fun i e t=>e=[(1,.clo g caps),(7,lst (.st 9) xs),(8,.i .i64 (xs.length:Int)),(9,.i .i64 (i:Int))]∧t=s) ?_ ?_ 0 _ _ (Nat.zero_le _) ⟨rfl,rfl⟩) ?_
 ·rintro i e t ⟨rfl,rfl⟩ hi
  have h1:=List.getElem?_eq_getElem hi
  obtain⟨cs,hcs,hlen⟩:=(hx _ (List.getElem_mem hi)).agg
  obtain⟨b,hb⟩:=hf _ (List.getElem_mem hi) (ex t [.cells cs])
  rw[hcs] at h1 hb
  have h2:∀ k,aiad (.st 9) (lst (.st 9) xs) (.i k (i:Int))=some (.ep cs 0):=fun k=>lst_iad (x:=.agg cs) rfl h1
  have h4:cs.take 9=cs:=List.take_of_length_le (by omega)
  have h3:decide ((i:Int)<(xs.length:Int))=true:=by simp;omega
  have h5:=@wrap_one i (by omega)
  simp only[go_sem,reduceCtorEq,↓reduceIte,nA,nB,nC,nD,nE,iA,iB,iC,iD,iE,iF,h2,h3,h4,h5,hlen,hb,Nat.le_refl,hlo]
  refine W.ifc (fun h=>?_) (fun h=>?_)
  ·simp only[go_sem,reduceCtorEq,↓reduceIte,nA,nB,nC,nD,nE,iA,iB,iC,iD,iE,iF,h,h5,hlo]
  ·simp only[go_sem,reduceCtorEq,↓reduceIte,nA,nB,nC,nD,nE,iA,iB,iC,iD,iE,iF,h,h5,hlo]
   exact .inr ⟨_,_,rfl,rfl⟩
 ·rintro e t ⟨rfl,rfl⟩
  have h3:decide ((xs.length:Int)<(xs.length:Int))=false:=by simp
  simp only[go_sem,reduceCtorEq,↓reduceIte,nA,nB,nC,nD,nE,iA,iB,iC,iD,iE,iF,h3,hlo]
  exact .inl ⟨_,rfl⟩
 ·rintro q (⟨e,rfl⟩|⟨b,e,h4,rfl⟩)
  ·simp only[go_sem,reduceCtorEq,↓reduceIte,nA,nB,nC,nD,nE,iA,iB,iC,iD,iE,iF]
   exact⟨_,rfl⟩
  ·simp only[go_sem,reduceCtorEq,↓reduceIte,nA,nB,nC,nD,nE,iA,iB,iC,iD,iE,iF,h4]
   exact⟨_,rfl⟩
theorem allAlt_tot (xs:List AV) (hx:∀ x∈xs,Ele (.st 7) x) (hl:xs.length≤1000000) (g:Nat) (caps:List AV) (s:St) (hlo:∀ n,AV.lowL n caps=true) (hf:∀ x∈xs,∀ s,∃ b,C F0 X0 g (x::caps) s=some (.b b,s)):∃ b,C F0 X0 132 [lst (.st 7) xs,.clo g caps] s=some (.b b,s):=by
 suffices h:W (C F0 X0 132 [lst (.st 7) xs,.clo g caps] s) fun q=>∃ b,q=(.b b,s) by
  obtain⟨r,h1,b,rfl⟩:=h;exact⟨b,h1⟩
 rw[w_call (f:=132) rfl]
 simp only[go_sem,reduceCtorEq,↓reduceIte,nA,nB,nC,nD,nE,iA,iB,iC,iD,iE,iF]
 refine W.step (W.range (n:=xs.length) (Q:=fun q=>(∃ e,q=(.exit 0,e,s))∨∃ b e,get e 4=some (.b b)∧q=(.ret,e,s)) (L:=l132_0) rfl (fun i e t=>e=[(1,.clo g caps),(7,lst (.st 7) xs),(8,.i .i64 (xs.length:Int)),(9,.i .i64 (i:Int))]∧t=s) ?_ ?_ 0 _ _ (Nat.zero_le _) ⟨rfl,rfl⟩) ?_
 ·rintro i e t ⟨rfl,rfl⟩ hi
  have h1:=List.getElem?_eq_getElem hi
  obtain⟨cs,hcs,hlen⟩:=(hx _ (List.getElem_mem hi)).agg
  obtain⟨b,hb⟩:=hf _ (List.getElem_mem hi) (ex t [.cells cs])
  rw[hcs] at h1 hb
  have h2:∀ k,aiad (.st 7) (lst (.st 7) xs) (.i k (i:Int))=some (.ep cs 0):=fun k=>lst_iad (x:=.agg cs) rfl h1
  have h4:cs.take 7=cs:=List.take_of_length_le (by omega)
  have h3:decide ((i:Int)<(xs.length:Int))=true:=by simp;omega
  have h5:=@wrap_one i (by omega)
  simp only[go_sem,reduceCtorEq,↓reduceIte,nA,nB,nC,nD,nE,iA,iB,iC,iD,iE,iF,h2,h3,h4,h5,hlen,hb,Nat.le_refl,hlo]
  refine W.ifc (fun h=>?_) (fun h=>?_)
  ·simp only[go_sem,reduceCtorEq,↓reduceIte,nA,nB,nC,nD,nE,iA,iB,iC,iD,iE,iF,h,h5,hlo]
  ·simp only[go_sem,reduceCtorEq,↓reduceIte,nA,nB,nC,nD,nE,iA,iB,iC,iD,iE,iF,h,h5,hlo]
   exact .inr ⟨_,_,rfl,rfl⟩
 ·rintro e t ⟨rfl,rfl⟩
  have h3:decide ((xs.length:Int)<(xs.length:Int))=false:=by simp
  simp only[go_sem,reduceCtorEq,↓reduceIte,nA,nB,nC,nD,nE,iA,iB,iC,iD,iE,iF,h3,hlo]
  exact .inl ⟨_,rfl⟩
 ·rintro q (⟨e,rfl⟩|⟨b,e,h4,rfl⟩)
  ·simp only[go_sem,reduceCtorEq,↓reduceIte,nA,nB,nC,nD,nE,iA,iB,iC,iD,iE,iF]
   exact⟨_,rfl⟩
  ·simp only[go_sem,reduceCtorEq,↓reduceIte,nA,nB,nC,nD,nE,iA,iB,iC,iD,iE,iF,h4]
   exact⟨_,rfl⟩
theorem allStr_tot (xs:List AV) (hx:∀ x∈xs,Ele .one x) (hl:xs.length≤1000000) (g:Nat) (caps:List AV) (s:St) (hlo:∀ n,AV.lowL n caps=true) (hf:∀ x∈xs,∀ s,∃ b,C F0 X0 g (x::caps) s=some (.b b,s)):∃ b,C F0 X0 69 [lst .one xs,.clo g caps] s=some (.b b,s):=by
 suffices h:W (C F0 X0 69 [lst .one xs,.clo g caps] s) fun q=>∃ b,q=(.b b,s) by
  obtain⟨r,h1,b,rfl⟩:=h;exact⟨b,h1⟩
 rw[w_call (f:=69) rfl]
 simp only[go_sem,reduceCtorEq,↓reduceIte,nA,nB,nC,nD,nE,iA,iB,iC,iD,iE,iF]
 refine W.step (W.range (n:=xs.length) (Q:=fun q=>(∃ e,q=(.exit 0,e,s))∨∃ b e,get e 4=some (.b b)∧q=(.ret,e,s)) (L:=l69_0) rfl (fun i e t=>e=[(1,.clo g caps),(7,lst .one xs),(8,.i .i64 (xs.length:Int)),(9,.i .i64 (i:Int))]∧t=s) ?_ ?_ 0 _ _ (Nat.zero_le _) ⟨rfl,rfl⟩) ?_
 ·rintro i e t ⟨rfl,rfl⟩ hi
  have h1:=List.getElem?_eq_getElem hi
  have hc:=(hx _ (List.getElem_mem hi)).onec
  obtain⟨b,hb⟩:=hf _ (List.getElem_mem hi) t
  have h2:∀ k,aiad .one (lst .one xs) (.i k (i:Int))=some (.ep [xs[i]] 0):=fun k=>by rw[lst_iad (x:=xs[i]) rfl h1,hc]
  have h4:=hc
  have hlen:=hi
  have h3:decide ((i:Int)<(xs.length:Int))=true:=by simp;omega
  have h5:=@wrap_one i (by omega)
  simp only[go_sem,reduceCtorEq,↓reduceIte,nA,nB,nC,nD,nE,iA,iB,iC,iD,iE,iF,h2,h3,h4,h5,hlen,hb,Nat.le_refl,hlo]
  refine W.ifc (fun h=>?_) (fun h=>?_)
  ·simp only[go_sem,reduceCtorEq,↓reduceIte,nA,nB,nC,nD,nE,iA,iB,iC,iD,iE,iF,h,h5,hlo]
  ·simp only[go_sem,reduceCtorEq,↓reduceIte,nA,nB,nC,nD,nE,iA,iB,iC,iD,iE,iF,h,h5,hlo]
   exact .inr ⟨_,_,rfl,rfl⟩
 ·rintro e t ⟨rfl,rfl⟩
  have h3:decide ((xs.length:Int)<(xs.length:Int))=false:=by simp
  simp only[go_sem,reduceCtorEq,↓reduceIte,nA,nB,nC,nD,nE,iA,iB,iC,iD,iE,iF,h3,hlo]
  exact .inl ⟨_,rfl⟩
 ·rintro q (⟨e,rfl⟩|⟨b,e,h4,rfl⟩)
  ·simp only[go_sem,reduceCtorEq,↓reduceIte,nA,nB,nC,nD,nE,iA,iB,iC,iD,iE,iF]
   exact⟨_,rfl⟩
  ·simp only[go_sem,reduceCtorEq,↓reduceIte,nA,nB,nC,nD,nE,iA,iB,iC,iD,iE,iF,h4]
   exact⟨_,rfl⟩
end Go.Am
namespace Go.Am
open Go
noncomputable def yb (f:Nat) (a:List AV) (s:St):Bool:=match C F0 X0 f a s with|some (.b b,_)=>b|_=>false
theorem yb_eq {f a s} (h:∃ b,C F0 X0 f a s=some (.b b,s)):C F0 X0 f a s=some (.b (yb f a s),s):=by
 obtain⟨b,h⟩:=h
 unfold yb
 rw[h]
abbrev Yn (f:Nat) (a:List AV) (s:St):Prop:=∃ b,C F0 X0 f a s=some (.b b,s)
theorem yn_of {f a s} (h:W (C F0 X0 f a s) fun q=>∃ b,q=(.b b,s)):Yn f a s:=by
 obtain⟨r,h1,b,rfl⟩:=h;exact⟨b,h1⟩
theorem is_tot (t:Str) (k:Int) (s:St):Yn 68 [.s t,.i .i64 k] s:=by
 refine yn_of ?_
 rw[w_call (f:=68) rfl]
 simp only[go_sem,reduceCtorEq,↓reduceIte,nA,nB,nC,nD,nE,iA,iB,iC,iD,iE,iF,Tok.av]
 repeat' (refine W.ifc (fun h=>?_) (fun h=>?_)<;>simp only[go_sem,reduceCtorEq,↓reduceIte,nA,nB,nC,nD,nE,iA,iB,iC,iD,iE,iF,h])
 all_goals exact⟨_,rfl⟩
@[go_sem] theorem is_eq (t:Str) (k:Int) (s:St):C F0 X0 68 [.s t,.i .i64 k] s=some (.b (yb 68 [.s t,.i .i64 k] s),s):=yb_eq (is_tot t k s)
theorem variable_tot (t:Str) (s:St):Yn 74 [.s t] s:=by
 refine yn_of ?_
 rw[w_call (f:=74) rfl]
 simp only[go_sem,reduceCtorEq,↓reduceIte,nA,nB,nC,nD,nE,iA,iB,iC,iD,iE,iF]
 repeat' (refine W.ifc (fun h=>?_) (fun h=>?_)<;>simp only[go_sem,reduceCtorEq,↓reduceIte,nA,nB,nC,nD,nE,iA,iB,iC,iD,iE,iF,h])
 all_goals exact⟨_,rfl⟩
@[go_sem] theorem variable_eq (t:Str) (s:St):C F0 X0 74 [.s t] s=some (.b (yb 74 [.s t] s),s):=yb_eq (variable_tot t s)
theorem param_tot (t:Str) (s:St):Yn 131 [.s t] s:=by
 refine yn_of ?_
 rw[w_call (f:=131) rfl]
 simp only[go_sem,reduceCtorEq,↓reduceIte,nA,nB,nC,nD,nE,iA,iB,iC,iD,iE,iF]
 repeat' (refine W.ifc (fun h=>?_) (fun h=>?_)<;>simp only[go_sem,reduceCtorEq,↓reduceIte,nA,nB,nC,nD,nE,iA,iB,iC,iD,iE,iF,h])
 all_goals exact⟨_,rfl⟩
@[go_sem] theorem param_eq (t:Str) (s:St):C F0 X0 131 [.s t] s=some (.b (yb 131 [.s t] s),s):=yb_eq (param_tot t s)
theorem mem_map_of {α:Type} {f:α→AV} {l:List α} {P:AV→Prop} (h:∀ x∈l,P (f x)):∀ y∈l.map f,P y:=by
 intro y hy
 obtain⟨x,hx,rfl⟩:=List.mem_map.1 hy
 exact h x hx
theorem RightPat_tot:∀ (n:Nat) (p:Pat),SizeOf.sizeOf p<n→p.ok→∀ s,Yn 76 [p.av] s:=by
 intro n
 induction n with
 | zero=>intro p h;omega
 | succ n ih =>
  intro p hn ok s
  refine yn_of ?_
  have hall:=fun s=>yb_eq (allPat_tot (p.args.map Pat.av) (mem_map_of fun x _=>x.ele) (by have:=(Pat.ok_args ok).1;simp;omega) 76 [] s (fun _=>rfl) (mem_map_of fun x hx s=>ih x (by have:=Pat.size hx;omega) ((Pat.ok_args ok).2 x hx) s))
  rw[w_call (f:=76) rfl]
  simp only[go_sem,reduceCtorEq,↓reduceIte,nA,nB,nC,nD,nE,iA,iB,iC,iD,iE,iF]
  repeat' (refine W.ifc (fun h=>?_) (fun h=>?_)<;>simp only[go_sem,reduceCtorEq,↓reduceIte,nA,nB,nC,nD,nE,iA,iB,iC,iD,iE,iF,h,hall])
  all_goals exact⟨_,rfl⟩
theorem RightPat_all (p:Pat) (ok:p.ok) (s:St):Yn 76 [p.av] s:=RightPat_tot _ p (Nat.lt_succ_self _) ok s
theorem RightPat_eq (p:Pat) (ok:p.ok) (s:St):C F0 X0 76 [p.av] s=some (.b (yb 76 [p.av] s),s):=yb_eq (RightPat_all p ok s)
end Go.Am
namespace Go.Am
open Go
theorem RightType_tot:∀ (n:Nat) (p:Ty),SizeOf.sizeOf p<n→p.ok→∀ s,Yn 73 [p.av] s:=by
 intro n
 induction n with
 | zero=>intro p h;omega
 | succ n ih =>
  intro p hn ok s
  refine yn_of ?_
  have hall:=fun s=>yb_eq (allTy_tot (p.args.map Ty.av) (mem_map_of fun x _=>x.ele) (by have:=(Ty.ok_args ok).1;simp;omega) 73 [] s (fun _=>rfl) (mem_map_of fun x hx s=>ih x (by have:=Ty.size hx;omega) ((Ty.ok_args ok).2 x hx) s))
  rw[w_call (f:=73) rfl]
  simp only[go_sem,reduceCtorEq,↓reduceIte,nA,nB,nC,nD,nE,iA,iB,iC,iD,iE,iF]
  repeat' (refine W.ifc (fun h=>?_) (fun h=>?_)<;>simp only[go_sem,reduceCtorEq,↓reduceIte,nA,nB,nC,nD,nE,iA,iB,iC,iD,iE,iF,h,hall])
  all_goals exact⟨_,rfl⟩
theorem RightType_all (p:Ty) (ok:p.ok) (s:St):Yn 73 [p.av] s:=RightType_tot _ p (Nat.lt_succ_self _) ok s
theorem rightFix_tot (f:FixT) (s:St):Yn 39 [f.av] s:=by
 refine yn_of ?_
 rw[w_call (f:=39) rfl]
 simp only[go_sem,reduceCtorEq,↓reduceIte,nA,nB,nC,nD,nE,iA,iB,iC,iD,iE,iF]
 repeat' (refine W.ifc (fun h=>?_) (fun h=>?_)<;>simp only[go_sem,reduceCtorEq,↓reduceIte,nA,nB,nC,nD,nE,iA,iB,iC,iD,iE,iF,h])
 all_goals exact⟨_,rfl⟩
theorem rightData1_tot (t:Str) (s:St):Yn 67 [.s t] s:=by
 refine yn_of ?_
 rw[w_call (f:=67) rfl]
 simp only[go_sem,reduceCtorEq,↓reduceIte,nA,nB,nC,nD,nE,iA,iB,iC,iD,iE,iF]
 all_goals exact⟨_,rfl⟩
theorem rightData2_tot (c:Constr) (ok:c.ok) (s:St):Yn 71 [c.av] s:=by
 refine yn_of ?_
 have hall:=fun s=>yb_eq (allTy_tot (c.fields.map Ty.av) (mem_map_of fun x _=>x.ele) (by have:=ok.len;simp;omega) 73 [] s (fun _=>rfl) (mem_map_of fun x hx s=>RightType_all x (ok.all x hx) s))
 rw[w_call (f:=71) rfl]
 simp only[go_sem,reduceCtorEq,↓reduceIte,nA,nB,nC,nD,nE,iA,iB,iC,iD,iE,iF]
 repeat' (refine W.ifc (fun h=>?_) (fun h=>?_)<;>simp only[go_sem,reduceCtorEq,↓reduceIte,nA,nB,nC,nD,nE,iA,iB,iC,iD,iE,iF,h,hall])
 all_goals exact⟨_,rfl⟩
theorem strs_ele {l:List Str}:∀ x∈strs l,Ele .one x:=mem_map_of fun _ _=>ele_one rfl
theorem rightData_tot (d:Data) (ok:d.ok) (s:St):Yn 37 [d.av] s:=by
 refine yn_of ?_
 have h1:=fun s=>yb_eq (allStr_tot (strs d.params) strs_ele (by have:=ok.lenp;simp[strs];omega) 67 [] s (fun _=>rfl) (mem_map_of fun x hx s=>rightData1_tot x s))
 have h2:=fun s=>yb_eq (allCon_tot (d.cons.map Constr.av) (mem_map_of fun x _=>x.ele) (by have:=ok.len;simp;omega) 71 [] s (fun _=>rfl) (mem_map_of fun x hx s=>rightData2_tot x (ok.all x hx) s))
 rw[w_call (f:=37) rfl]
 simp only[go_sem,reduceCtorEq,↓reduceIte,nA,nB,nC,nD,nE,iA,iB,iC,iD,iE,iF]
 repeat' (refine W.ifc (fun h=>?_) (fun h=>?_)<;>simp only[go_sem,reduceCtorEq,↓reduceIte,nA,nB,nC,nD,nE,iA,iB,iC,iD,iE,iF,h,h1,h2])
 all_goals exact⟨_,rfl⟩
def Rhs.parts (r:Rhs):List Xp:=r.guard++[r.body]
theorem rightRhs1_tot (r:Rhs) (H:∀ x∈r.parts,∀ s,Yn 110 [x.av] s) (s:St):Yn 112 [r.av] s:=by
 refine yn_of ?_
 have hb:=fun s=>yb_eq (H r.body (by simp[Rhs.parts]) s)
 rw[w_call (f:=112) rfl]
 cases hg:r.guard with
 | nil =>
  simp only[go_sem,reduceCtorEq,↓reduceIte,nA,nB,nC,nD,nE,iA,iB,iC,iD,iE,iF,hg,List.map_nil,List.length_nil]
  repeat' (refine W.ifc (fun h=>?_) (fun h=>?_)<;>simp only[go_sem,reduceCtorEq,↓reduceIte,nA,nB,nC,nD,nE,iA,iB,iC,iD,iE,iF,h,hb])
  all_goals exact⟨_,rfl⟩
 | cons g gs =>
  have h1:=fun s=>yb_eq (H g (by simp[Rhs.parts,hg]) s)
  have h2:∀ k,aiad (.st 9) (lst (.st 9) (r.guard.map Xp.av)) (.i k 0)=some (.ep g.av.cells 0):=fun k=>by rw[hg];exact iad_l0
  simp only[go_sem,reduceCtorEq,↓reduceIte,nA,nB,nC,nD,nE,iA,iB,iC,iD,iE,iF]
  repeat' (refine W.ifc (fun h=>?_) (fun h=>?_)<;>simp only[go_sem,reduceCtorEq,↓reduceIte,nA,nB,nC,nD,nE,iA,iB,iC,iD,iE,iF,h,hb,h1,h2])
  all_goals exact⟨_,rfl⟩
theorem rightRhs_tot (l:List Rhs) (hl:l.length≤900000) (H:∀ r∈l,∀ x∈r.parts,∀ s,Yn 110 [x.av] s) (s:St):Yn 77 [lst (.st 10) (l.map Rhs.av)] s:=by
 refine yn_of ?_
 have hall:=fun s=>yb_eq (allRhs_tot (l.map Rhs.av) (mem_map_of fun x _=>x.ele) (by simp;omega) 112 [] s (fun _=>rfl) (mem_map_of fun x hx s=>rightRhs1_tot x (H x hx) s))
 rw[w_call (f:=77) rfl]
 cases hg:l with
 | nil =>
  simp only[go_sem,reduceCtorEq,↓reduceIte,nA,nB,nC,nD,nE,iA,iB,iC,iD,iE,iF,List.map_nil,List.length_nil]
  repeat' (refine W.ifc (fun h=>?_) (fun h=>?_)<;>simp only[go_sem,reduceCtorEq,↓reduceIte,nA,nB,nC,nD,nE,iA,iB,iC,iD,iE,iF,h])
  all_goals exact⟨_,rfl⟩
 | cons r rs =>
  rw[←hg]
  have hb:=fun s=>yb_eq (H r (by simp[hg]) r.body (by simp[Rhs.parts]) s)
  have h2:∀ k,aiad (.st 10) (lst (.st 10) (l.map Rhs.av)) (.i k 0)=some (.ep r.av.cells 0):=fun k=>by rw[hg];exact iad_l0
  simp only[go_sem,reduceCtorEq,↓reduceIte,nA,nB,nC,nD,nE,iA,iB,iC,iD,iE,iF,h2]
  repeat' (refine W.ifc (fun h=>?_) (fun h=>?_)<;>simp only[go_sem,reduceCtorEq,↓reduceIte,nA,nB,nC,nD,nE,iA,iB,iC,iD,iE,iF,h,hall,hb,h2])
  all_goals exact⟨_,rfl⟩
theorem rightAlt_tot (a:Alt) (ok:a.ok) (H:∀ r∈a.rhs,∀ x∈r.parts,∀ s,Yn 110 [x.av] s) (s:St):Yn 133 [a.av] s:=by
 refine yn_of ?_
 have h1:=fun s=>RightPat_eq a.pat (Alt.ok_parts ok).1 s
 have h2:=fun s=>yb_eq (rightRhs_tot a.rhs (Alt.ok_parts ok).2.1 H s)
 rw[w_call (f:=133) rfl]
 simp only[go_sem,reduceCtorEq,↓reduceIte,nA,nB,nC,nD,nE,iA,iB,iC,iD,iE,iF,h1]
 repeat' (refine W.ifc (fun h=>?_) (fun h=>?_)<;>simp only[go_sem,reduceCtorEq,↓reduceIte,nA,nB,nC,nD,nE,iA,iB,iC,iD,iE,iF,h,h1,h2])
 all_goals exact⟨_,rfl⟩
end Go.Am
namespace Go.Am
open Go
structure Rd (A:Nat→Option (List AV)) (el:El) (v:AV) (xs:List AV):Prop where
 len:alen false v=some (.i .i64 (xs.length:Nat))
 low:∀ n,v.low n=true
 one:v.cells=[v]
 frw:∀ s:St,s.arr=A→flat el v s=some (xs.length,xs.flatMap AV.cells)
 ld:∀ (i:Nat) x,xs[i]?=some x→∃ p,(∀ k,aiad el v (.i k (i:Int))=some p)∧(∀ s:St,s.arr=A→aload s el p=some x) ∧
  ∀ off el',off+el'.size≤x.cells.length→∃ p',afad off p=some p'∧∀ s:St,s.arr=A→aload s el' p'=El.get el' x.cells off
theorem Rd.lst {A el xs} (h:∀ x∈xs,Ele el x):Rd A el (lst el xs) xs:=by
 refine⟨len_lst,fun n=>lst_low,lst_cells,fun s _=>lst_flat,fun i x hx=>?_⟩
 obtain⟨hi,rfl⟩:=List.getElem?_eq_some_iff.1 hx
 have hm:=List.getElem_mem hi
 exact⟨_,fun k=>lst_iad rfl hx,fun s _=>elem_ld (h _ hm).elem,fun off el' _=>⟨_,rfl,fun s _=>by rw[Nat.zero_add];rfl⟩⟩
theorem get_app {el:El} {l m:List AV} {o:Nat} (h:o+el.size≤l.length):El.get el (l++m) o=El.get el l o:=by
 cases el with
 | one=>show (l++m)[o]?=l[o]?;exact List.getElem?_append_left (by show o<l.length;have:o+1≤l.length:=h;omega)
 | st n =>
  replace h:o+n≤l.length:=h
  show (if _ then _ else _)=(if _ then _ else _)
  rw[if_pos (by rw[List.length_append];omega),if_pos h,List.drop_append_of_le_length (by omega),List.take_append_of_le_length (by rw[List.length_drop];omega)]
theorem get_drop {el:El} {l:List AV} {o k:Nat} (h:k+o+el.size≤l.length):El.get el l (k+o)=El.get el (l.drop k) o:=by
 cases el with
 | one=>show l[k+o]?=(l.drop k)[o]?;rw[List.getElem?_drop]
 | st n =>
  replace h:k+o+n≤l.length:=h
  show (if _ then _ else _)=(if _ then _ else _)
  rw[if_pos h,if_pos (by rw[List.length_drop];omega),List.drop_drop]
theorem flat_drop {el:El}:∀ {xs:List AV} {i:Nat} {x},(∀ x∈xs,Ele el x)→xs[i]?=some x→∃ m,(xs.flatMap AV.cells).drop (i*el.size)=x.cells++m∧i*el.size+el.size≤xs.length*el.size
 | [],i,x,_,h=>by cases h
 | y::ys,0,x,hx,h=>by
  injection h with h;subst h
  refine⟨ys.flatMap AV.cells,by simp,by rw[List.length_cons,Nat.add_mul];omega⟩
 | y::ys,i+1,x,hx,h=>by
  obtain⟨m,h1,h2⟩:=flat_drop (fun z hz=>hx z (List.mem_cons_of_mem _ hz)) (show ys[i]?=some x from h)
  have hl:y.cells.length=el.size:=(hx y (List.mem_cons_self ..)).elem.2.1
  refine⟨m,?_,by rw[List.length_cons,Nat.add_mul,Nat.add_mul];omega⟩
  rw[List.flatMap_cons,Nat.add_mul,Nat.one_mul,List.drop_append,List.drop_eq_nil_of_le (by omega),List.nil_append,hl,Nat.add_sub_cancel,h1]
def Gr (A:Nat→Option (List AV)) (N:Nat) (el:El) (v:AV) (xs:List AV) (d:Option Nat):Prop :=
 (∀ x∈xs,Ele el x)∧((v=.nsl∧xs=[]∧d=none)∨∃ a cs,v=.os a el xs.length∧A a=some cs∧cs.take (xs.length*el.size)=xs.flatMap AV.cells∧a<N∧d=some a)
section
variable {A:Nat→Option (List AV)} {N:Nat} {el:El} {v:AV} {xs:List AV} {d:Option Nat}
theorem Gr.nil:Gr A N el .nsl [] none:=⟨(fun x h=>nomatch h),.inl ⟨rfl,rfl,rfl⟩⟩
theorem Gr.len (h:Gr A N el v xs d):alen false v=some (.i .i64 (xs.length:Nat)):=by
 obtain⟨-,⟨rfl,rfl,rfl⟩|⟨a,cs,rfl,-⟩⟩:=h<;>rfl
theorem Gr.low (h:Gr A N el v xs d) (n:Nat):v.low n=true:=by
 obtain⟨-,⟨rfl,rfl,rfl⟩|⟨a,cs,rfl,-⟩⟩:=h<;>rfl
theorem Gr.one (h:Gr A N el v xs d):v.cells=[v]:=by
 obtain⟨-,⟨rfl,rfl,rfl⟩|⟨a,cs,rfl,-⟩⟩:=h<;>rfl
theorem Gr.lt (h:Gr A N el v xs d) {a} (ha:d=some a):a<N:=by
 obtain⟨-,⟨rfl,rfl,rfl⟩|⟨b,cs,rfl,-,-,h1,rfl⟩⟩:=h
 ·cases ha
 ·injection ha with ha;subst ha;exact h1
theorem Gr.alow (h:Gr A N el v xs d) {n} (ha:∀ a,d=some a→a<n):v.alow n=true:=by
 obtain⟨-,⟨rfl,rfl,rfl⟩|⟨b,cs,rfl,-,-,h1,rfl⟩⟩:=h
 ·rfl
 ·exact decide_eq_true (ha b rfl)
theorem Gr.alow' (h:Gr A N el v xs d) {n} (ha:v.alow n=true) {a} (hd:d=some a):a<n:=by
 obtain⟨-,⟨rfl,rfl,rfl⟩|⟨b,cs,rfl,-,-,h1,rfl⟩⟩:=h
 ·cases hd
 ·injection hd with hd;subst hd;exact of_decide_eq_true ha
theorem Gr.mono {A' N'} (h:Gr A N el v xs d) (ha:∀ a,d=some a→A' a=A a∧a<N'):Gr A' N' el v xs d:=by
 obtain⟨h0,h1|⟨b,cs,rfl,h1,h2,h3,rfl⟩⟩:=h
 ·exact⟨h0,.inl h1⟩
 ·obtain⟨k1,k2⟩:=ha b rfl
  exact⟨h0,.inr ⟨b,cs,rfl,k1.trans h1,h2,k2,rfl⟩⟩
theorem Gr.rd (h:Gr A N el v xs d) (hs:0<el.size):Rd A el v xs:=by
 refine⟨h.len,h.low,h.one,fun s hs=>?_,fun i x hx=>?_⟩
 ·obtain⟨h0,⟨rfl,rfl,rfl⟩|⟨b,cs,rfl,h1,h2,h3,rfl⟩⟩:=h
  ·rfl
  ·unfold flat
   dsimp only
   rw[hs,h1]
   dsimp only
   have hl:=congrArg List.length h2
   rw[List.length_take,flat_len h0] at hl
   rw[if_pos ⟨by omega,rfl⟩,h2]
 ·obtain⟨h0,⟨rfl,rfl,rfl⟩|⟨b,cs,rfl,h1,h2,h3,rfl⟩⟩:=h
  ·cases hx
  obtain⟨m,k1,k2⟩:=flat_drop h0 hx
  have hl:=congrArg List.length h2
  rw[List.length_take,flat_len h0] at hl
  have hi:=(List.getElem?_eq_some_iff.1 hx).1
  have hxe:Ele el x:=by obtain⟨_,rfl⟩:=List.getElem?_eq_some_iff.1 hx;exact h0 _ (List.getElem_mem hi)
  have hxl:x.cells.length=el.size:=hxe.elem.2.1
  have hcs:cs.drop (i*el.size)=x.cells++(m++cs.drop (xs.length*el.size)):=by
   rw[←List.append_assoc,←k1,←h2,←List.drop_append_of_le_length (by rw[List.length_take];omega),List.take_append_drop]
  have hlen:i*el.size+el.size≤cs.length:=by omega
  have key:∀ off (el':El),off+el'.size≤x.cells.length→El.get el' cs (i*el.size+off)=El.get el' x.cells off:=fun off el' ho=>by
   rw[get_drop (by omega),hcs,get_app ho]
  refine⟨.aref b (i*el.size),fun k=>?_,fun s hs=>?_,fun off el' ho=>⟨.aref b (i*el.size+off),rfl,fun s hs=>?_⟩⟩
  ·show (if 0≤(i:Int)∧(i:Int)<(xs.length:Nat)∧el.size=el.size then some (AV.aref b ((i:Int).toNat*el.size)) else none)=_
   rw[if_pos ⟨by omega,by omega,rfl⟩,Int.toNat_natCast]
  ·show (s.arr b).bind _=_
   rw[hs,h1]
   show El.get el cs (i*el.size)=_
   have:=key 0 el (by omega)
   rw[Nat.add_zero] at this
   rw[this]
   have:=hxe.elem.2.2 []
   rw[List.append_nil] at this
   exact this
  ·show (s.arr b).bind _=_
   rw[hs,h1]
   exact key off el' ho
theorem Gr.app {s:St} {ys:List AV} (h:Gr s.arr s.nxt el v xs d) (hy:∀ y∈ys,Ele el y) (hm:xs.length+ys.length≤most) :
  ∃ v' A' N' d',agrow s el ys.length (ys.flatMap AV.cells) v=some (v',wa s A' N')∧Gr A' N' el v' (xs++ys) d'∧s.nxt≤N'∧(∀ a,a<s.nxt→d≠some a→A' a=s.arr a)∧(∀ a,d'=some a→d=some a∨s.nxt≤a)∧(d=none→ys=[]→v'=.nsl):=by
 have hlow:AV.lowL 0 (ys.flatMap AV.cells)=true:=scals_low (flat_scal hy)
 have hall:∀ x∈xs++ys,Ele el x:=fun x hx=>by rcases List.mem_append.1 hx with hx|hx<;>first|exact h.1 x hx|exact hy x hx
 obtain⟨h0,⟨rfl,rfl,rfl⟩|⟨b,cs,rfl,h1,h2,h3,rfl⟩⟩:=id h
 ·cases ys with
  | nil=>exact⟨.nsl,s.arr,s.nxt,none,rfl,Gr.nil,Nat.le_refl _,fun _ _ _=>rfl,(fun a h=>nomatch h),fun _ _=>rfl⟩
  | cons y ys =>
   refine⟨.os s.nxt el (y::ys).length,upd s.arr s.nxt (some ((y::ys).flatMap AV.cells)),s.nxt+1,some s.nxt,?_,⟨hall,.inr ⟨s.nxt,_,rfl,upd_same,?_,Nat.lt_succ_self _,rfl⟩⟩,Nat.le_succ _,fun a ha _=>upd_other (by omega),fun a h=>by injection h with h;subst h;exact .inr (Nat.le_refl _),fun _ h=>by cases h⟩
   ·unfold agrow
    dsimp only
    rw[if_neg (by simp),if_pos ⟨by simp at hm ⊢;omega,hlow⟩]
    rfl
   ·rw[List.nil_append];exact List.take_of_length_le (by rw[flat_len hy];exact Nat.le_refl _)
 ·have hl:=congrArg List.length h2
  rw[List.length_take,flat_len h0] at hl
  refine⟨.os s.nxt el (xs.length+ys.length),upd (upd s.arr b none) s.nxt (some (xs.flatMap AV.cells++ys.flatMap AV.cells)),s.nxt+1,some s.nxt,?_,⟨hall,.inr ⟨s.nxt,_,by rw[List.length_append],upd_same,?_,Nat.lt_succ_self _,rfl⟩⟩,Nat.le_succ _,fun a ha hne=>by rw[upd_other (by omega),upd_other (fun h=>hne (by rw[h]))],fun a h=>by injection h with h;subst h;exact .inr (Nat.le_refl _),fun h=>by cases h⟩
  ·unfold agrow
   dsimp only
   rw[h1]
   dsimp only
   rw[if_pos ⟨rfl,by omega,hm,hlow⟩,h2]
   rfl
  ·rw[List.flatMap_append];exact List.take_of_length_le (by rw[List.length_append,flat_len h0,flat_len hy,List.length_append,Nat.add_mul];exact Nat.le_refl _)
theorem Gr.push {s:St} {y:AV} {cy:List AV} (hc:y.cells=cy) (h:Gr s.arr s.nxt el v xs d) (hy:Ele el y) (hm:xs.length+1≤most) :
  ∃ v' A' N' d',agrow (newAr s cy) el 1 cy v=some (v',wa s A' N')∧Gr A' N' el v' (xs++[y]) d'∧s.nxt≤N'∧(∀ a,a<s.nxt→d≠some a→A' a=s.arr a)∧(∀ a,d'=some a→s.nxt≤a)∧v'≠.nsl:=by
 have h':Gr (newAr s cy).arr (newAr s cy).nxt el v xs d:=h.mono fun a ha=>⟨by show upd s.arr s.nxt (some cy) a=_;rw[upd_other (by have:=h.lt ha;omega)],by have:=h.lt ha;show a<s.nxt+1;omega⟩
 obtain⟨v',A',N',d',k1,k2,k3,k4,k5,k6⟩:=h'.app (ys:=[y]) (by intro z hz;rw[List.mem_singleton.1 hz];exact hy) hm
 have hcy:[y].flatMap AV.cells=cy:=by rw[List.flatMap_cons,hc];simp
 rw[hcy] at k1
 refine⟨v',A',N',d',k1,k2,Nat.le_trans (Nat.le_succ _) k3,fun a ha hne=>(k4 a (Nat.lt_succ_of_lt ha) hne).trans (upd_other (by omega)),fun a ha=>?_,?_⟩
 ·rcases k5 a ha with hd|hd
  ·
   obtain⟨-,⟨rfl,h2,rfl⟩|⟨b,cs,rfl,j1,j2,j3,rfl⟩⟩:=id h
   ·cases hd
   ·injection hd with hd
    subst hd
    obtain⟨-,⟨-,h2,-⟩|⟨b',cs',-,m1,-,-,m2⟩⟩:=k2
    ·simp at h2
    ·rw[ha] at m2
     injection m2 with m2
     subst m2
     exfalso
     have hlt:=h.lt rfl
     unfold agrow at k1
     dsimp only at k1
     rw[show (newAr s cy).arr b=some cs from (upd_other (by omega)).trans j1] at k1
     dsimp only at k1
     split at k1
     ·injection k1 with k1
      injection k1 with k1 k7
      have hA:A' b=(wa s A' N').arr b:=rfl
      rw[hA] at m1
      have k8:(wa (newAr s cy) A' N').arr b=some cs':=m1
      rw[←k7] at k8
      have:(upd (upd (newAr s cy).arr b none) (newAr s cy).nxt (some (cs.take (xs.length*el.size)++cy))) b=some cs':=k8
      rw[upd_other (by show b≠s.nxt+1;omega),upd_same] at this
      cases this
     ·cases k1
  ·exact Nat.le_trans (Nat.le_succ _) hd
 ·intro hv
  obtain⟨-,⟨-,h2,-⟩|⟨b',cs',m0,-⟩⟩:=k2
  ·simp at h2
  ·rw[hv] at m0;cases m0
theorem Gr.cut (h:Gr A N el v xs d) {n:Nat} (hn:n≤xs.length) {k}:∃ v',aslice false v none (some (.i k (n:Int)))=some v'∧Gr A N el v' (xs.take n) d:=by
 obtain⟨h0,⟨rfl,rfl,rfl⟩|⟨b,cs,rfl,h1,h2,h3,rfl⟩⟩:=id h
 ·have:n=0:=by simpa using hn
  subst this
  exact⟨.nsl,rfl,by rw[List.take_zero];exact Gr.nil⟩
 ·refine⟨.os b el n,?_,fun x hx=>h0 x (List.mem_of_mem_take hx),.inr ⟨b,cs,by rw[List.length_take];congr 1;omega,h1,?_,h3,rfl⟩⟩
  ·show (if 0≤(n:Int)∧(n:Int)≤(xs.length:Nat) then some (AV.os b el (n:Int).toNat) else none)=_
   rw[if_pos ⟨by omega,by omega⟩,Int.toNat_natCast]
  ·rw[List.length_take,Nat.min_eq_left hn]
   have e1:(xs.take n).flatMap AV.cells=(xs.flatMap AV.cells).take (n*el.size):=by
    have h4:(xs.take n).flatMap AV.cells++(xs.drop n).flatMap AV.cells=xs.flatMap AV.cells:=by rw[←List.flatMap_append,List.take_append_drop]
    have h5:((xs.take n).flatMap AV.cells).length=n*el.size:=by rw[flat_len (fun x hx=>h0 x (List.mem_of_mem_take hx)),List.length_take,Nat.min_eq_left hn]
    rw[←h4,List.take_append_of_le_length (Nat.le_of_eq h5.symm),List.take_of_length_le (Nat.le_of_eq h5)]
   rw[e1,←h2,List.take_take,Nat.min_eq_left (Nat.mul_le_mul_right _ hn)]
theorem Gr.fin (h:Gr A N el v xs d) (hne:xs=[]→v=.nsl):∃ A',(∀ n s,Am.frz (n+2) v (wa s A N)=some (lst el xs,wa s A' N))∧(∀ a,d≠some a→A' a=A a):=by
 obtain⟨h0,⟨rfl,rfl,rfl⟩|⟨b,cs,rfl,h1,h2,h3,rfl⟩⟩:=id h
 ·exact⟨A,fun _ _=>rfl,fun _ _=>rfl⟩
 ·cases xs with
  | nil=>cases hne rfl
  | cons x xs =>
   refine⟨upd A b none,fun n s=>?_,fun i hi=>upd_other (fun h=>hi (by rw[h]))⟩
   have hch:=chunk_flat (x::xs) [] (fun y hy=>(h0 y hy).elem)
   rw[List.append_nil] at hch
   rw[Am.frz]
   show (match A b with|some cs=>_|none=>_)=_
   rw[h1]
   dsimp only
   rw[h2,scals_frz (flat_scal h0)]
   dsimp only
   rw[hch]
   rfl
end
def psum {α:Type} (f:α→Nat) (l:List α) (i:Nat):Nat:=((l.take i).map f).sum
theorem psum_0 {α:Type} {f:α→Nat} {l:List α}:psum f l 0=0:=(rfl)
theorem psum_succ {α:Type} {f:α→Nat} {l:List α} {i:Nat} {x} (h:l[i]?=some x):psum f l (i+1)=psum f l i+f x:=by
 unfold psum
 obtain⟨hi,rfl⟩:=List.getElem?_eq_some_iff.1 h
 rw[List.take_succ_eq_append_getElem hi,List.map_append,List.sum_append]
 simp only[List.map_cons,List.map_nil,List.sum_cons,List.sum_nil,Nat.add_zero]
theorem psum_le {α:Type} {f:α→Nat}:∀ {l:List α} {i:Nat},psum f l i≤(l.map f).sum
 | [],i=>by simp[psum]
 | x::xs,0=>by simp[psum]
 | x::xs,i+1=>by
  have:=@psum_le α f xs i
  simp only[psum,List.take_succ_cons,List.map_cons,List.sum_cons] at this ⊢
  omega
theorem psum_lt {α:Type} {f:α→Nat} {l:List α} {i:Nat} {x} (h:l[i]?=some x):psum f l i+f x≤(l.map f).sum:=by
 rw[←psum_succ h];exact psum_le
theorem sum_mem {α:Type} {f:α→Nat}:∀ {l:List α} {x},x∈l→f x≤(l.map f).sum
 | y::ys,x,h=>by
  simp only[List.map_cons,List.sum_cons]
  rcases List.mem_cons.1 h with rfl|h
  ·omega
  ·have:=@sum_mem α f ys x h;omega
theorem sum_len {α:Type} {f:α→Nat}:∀ {l:List α},(∀ x∈l,1≤f x)→l.length≤(l.map f).sum
 | [],_=>Nat.le_refl _
 | y::ys,h=>by
  simp only[List.map_cons,List.sum_cons,List.length_cons]
  have h1:=h y (List.mem_cons_self ..)
  have h2:=sum_len (fun x hx=>h x (List.mem_cons_of_mem _ hx))
  omega
mutual
def Ty.sz:Ty→Nat
 | .mk _ _ _ as=>1+Ty.szs as
def Ty.szs:List Ty→Nat
 | []=>0
 | x::xs=>x.sz+Ty.szs xs
end
mutual
def Pat.sz:Pat→Nat
 | .mk _ _ _ as _ _=>1+Pat.szs as
def Pat.szs:List Pat→Nat
 | []=>0
 | x::xs=>x.sz+Pat.szs xs
end
mutual
def Xp.sz:Xp→Nat
 | .app a b _ _=>1+a.sz+b.sz
 | .row a ops=>1+a.sz+Rop.szs ops
 | .gen _ _ _ ps as al bs _ _=>1+ps.length+Xp.szs as+Alt.szs al+Bnd.szs bs
def Rop.sz:Rop→Nat
 | .mk _ _ _ x=>3+x.sz
def Xp.szs:List Xp→Nat
 | []=>0
 | x::xs=>x.sz+Xp.szs xs
def Rop.szs:List Rop→Nat
 | []=>0
 | x::xs=>x.sz+Rop.szs xs
def Rhs.sz:Rhs→Nat
 | .mk g b=>1+Xp.szs g+b.sz
def Rhs.szs:List Rhs→Nat
 | []=>0
 | x::xs=>x.sz+Rhs.szs xs
def Alt.sz:Alt→Nat
 | .mk p r=>1+p.sz+Rhs.szs r
def Alt.szs:List Alt→Nat
 | []=>0
 | x::xs=>x.sz+Alt.szs xs
def Clause.sz:Clause→Nat
 | .mk p r=>1+Pat.szs p+Rhs.szs r
def Clause.szs:List Clause→Nat
 | []=>0
 | x::xs=>x.sz+Clause.szs xs
def Bnd.sz:Bnd→Nat
 | .mk _ cl cs _ _=>1+cl.sz+Clause.szs cs
def Bnd.szs:List Bnd→Nat
 | []=>0
 | x::xs=>x.sz+Bnd.szs xs
end
def Constr.sz (c:Constr):Nat:=1+Ty.szs c.fields
def Data.sz (d:Data):Nat:=1+d.params.length+(d.cons.map Constr.sz).sum
theorem Ty.szs_sum:∀ l:List Ty,Ty.szs l=(l.map Ty.sz).sum
 | []=>rfl
 | x::xs=>by rw[Ty.szs,Ty.szs_sum xs];simp
theorem Ty.sz_pos (x:Ty):1≤x.sz:=by cases x<;>unfold Ty.sz<;>omega
theorem Ty.szs_len (l:List Ty):l.length≤(l.map Ty.sz).sum:=sum_len fun x _=>x.sz_pos
theorem Pat.szs_sum:∀ l:List Pat,Pat.szs l=(l.map Pat.sz).sum
 | []=>rfl
 | x::xs=>by rw[Pat.szs,Pat.szs_sum xs];simp
theorem Pat.sz_pos (x:Pat):1≤x.sz:=by cases x<;>unfold Pat.sz<;>omega
theorem Pat.szs_len (l:List Pat):l.length≤(l.map Pat.sz).sum:=sum_len fun x _=>x.sz_pos
theorem Xp.szs_sum:∀ l:List Xp,Xp.szs l=(l.map Xp.sz).sum
 | []=>rfl
 | x::xs=>by rw[Xp.szs,Xp.szs_sum xs];simp
theorem Xp.sz_pos (x:Xp):1≤x.sz:=by cases x<;>unfold Xp.sz<;>omega
theorem Xp.szs_len (l:List Xp):l.length≤(l.map Xp.sz).sum:=sum_len fun x _=>x.sz_pos
theorem Rop.szs_sum:∀ l:List Rop,Rop.szs l=(l.map Rop.sz).sum
 | []=>rfl
 | x::xs=>by rw[Rop.szs,Rop.szs_sum xs];simp
theorem Rop.sz_pos (x:Rop):1≤x.sz:=by cases x<;>unfold Rop.sz<;>omega
theorem Rop.szs_len (l:List Rop):l.length≤(l.map Rop.sz).sum:=sum_len fun x _=>x.sz_pos
theorem Rhs.szs_sum:∀ l:List Rhs,Rhs.szs l=(l.map Rhs.sz).sum
 | []=>rfl
 | x::xs=>by rw[Rhs.szs,Rhs.szs_sum xs];simp
theorem Rhs.sz_pos (x:Rhs):1≤x.sz:=by cases x<;>unfold Rhs.sz<;>omega
theorem Rhs.szs_len (l:List Rhs):l.length≤(l.map Rhs.sz).sum:=sum_len fun x _=>x.sz_pos
theorem Alt.szs_sum:∀ l:List Alt,Alt.szs l=(l.map Alt.sz).sum
 | []=>rfl
 | x::xs=>by rw[Alt.szs,Alt.szs_sum xs];simp
theorem Alt.sz_pos (x:Alt):1≤x.sz:=by cases x<;>unfold Alt.sz<;>omega
theorem Alt.szs_len (l:List Alt):l.length≤(l.map Alt.sz).sum:=sum_len fun x _=>x.sz_pos
theorem Clause.szs_sum:∀ l:List Clause,Clause.szs l=(l.map Clause.sz).sum
 | []=>rfl
 | x::xs=>by rw[Clause.szs,Clause.szs_sum xs];simp
theorem Clause.sz_pos (x:Clause):1≤x.sz:=by cases x<;>unfold Clause.sz<;>omega
theorem Clause.szs_len (l:List Clause):l.length≤(l.map Clause.sz).sum:=sum_len fun x _=>x.sz_pos
theorem Bnd.szs_sum:∀ l:List Bnd,Bnd.szs l=(l.map Bnd.sz).sum
 | []=>rfl
 | x::xs=>by rw[Bnd.szs,Bnd.szs_sum xs];simp
theorem Bnd.sz_pos (x:Bnd):1≤x.sz:=by cases x<;>unfold Bnd.sz<;>omega
theorem Bnd.szs_len (l:List Bnd):l.length≤(l.map Bnd.sz).sum:=sum_len fun x _=>x.sz_pos
theorem Constr.szs_len (l:List Constr):l.length≤(l.map Constr.sz).sum:=sum_len fun x _=>by unfold Constr.sz;omega
theorem Data.szs_len (l:List Data):l.length≤(l.map Data.sz).sum:=sum_len fun x _=>by unfold Data.sz;omega
theorem Ty.sz_eq (t:Ty):t.sz=1+(t.args.map Ty.sz).sum:=by cases t;unfold Ty.sz;rw[Ty.szs_sum];rfl
theorem Pat.sz_eq (t:Pat):t.sz=1+(t.args.map Pat.sz).sum:=by cases t;unfold Pat.sz;rw[Pat.szs_sum];rfl
theorem Rhs.sz_eq (t:Rhs):t.sz=1+(t.guard.map Xp.sz).sum+t.body.sz:=by cases t;unfold Rhs.sz;rw[Xp.szs_sum];rfl
theorem Alt.sz_eq (t:Alt):t.sz=1+t.pat.sz+(t.rhs.map Rhs.sz).sum:=by cases t;unfold Alt.sz;rw[Rhs.szs_sum];rfl
theorem Clause.sz_eq (t:Clause):t.sz=1+(t.pats.map Pat.sz).sum+(t.rhs.map Rhs.sz).sum:=by cases t;unfold Clause.sz;rw[Rhs.szs_sum,Pat.szs_sum];rfl
theorem Bnd.sz_eq (t:Bnd):t.sz=1+(t.cls.map Clause.sz).sum:=by
 cases t;unfold Bnd.sz;rw[Clause.szs_sum];simp[Bnd.cls,Bnd.cl,Bnd.cs];omega
theorem rops_sum (ops:List Rop):(ops.map (fun o=>o.x.sz)).sum+3*ops.length=Rop.szs ops:=by
 induction ops with
 | nil=>rfl
 | cons o os ih=>cases o;rw[Rop.szs,Rop.sz,←ih];simp[Rop.x];omega
theorem Xp.sz_ge (e:Xp):1+e.params.length+(e.args.map Xp.sz).sum+(e.alts.map Alt.sz).sum+(e.binds.map Bnd.sz).sum≤e.sz:=by
 cases e with
 | app a b l c=>unfold Xp.sz;simp[Xp.params,Xp.args,Xp.alts,Xp.binds];omega
 | row a ops =>
  unfold Xp.sz
  have:=rops_sum ops
  have h:(List.map Xp.sz (List.map Rop.x ops)).sum=(ops.map (fun o=>o.x.sz)).sum:=by rw[List.map_map];rfl
  simp only[Xp.params,Xp.args,Xp.alts,Xp.binds,List.map_cons,List.sum_cons,List.length_nil,List.map_nil,List.sum_nil,h]
  omega
 | gen k nm n ps as al bs l c=>unfold Xp.sz;rw[Xp.szs_sum,Alt.szs_sum,Bnd.szs_sum];exact Nat.le_refl _
mutual
theorem Ty.ok_sz:∀ t:Ty,t.sz≤900000→t.ok
 | .mk k n nm as,h=>by
  unfold Ty.sz at h
  have:=Ty.szs_len as
  rw[←Ty.szs_sum] at this
  exact⟨by omega,Ty.oks_sz as (by omega)⟩
theorem Ty.oks_sz:∀ l:List Ty,Ty.szs l≤900000→Ty.oks l
 | [],_=>trivial
 | x::xs,h=>by
  unfold Ty.szs at h
  exact⟨x.ok_sz (by omega),Ty.oks_sz xs (by omega)⟩
end
mutual
theorem Pat.ok_sz:∀ t:Pat,t.sz≤900000→t.ok
 | .mk k n nm as l c,h=>by
  unfold Pat.sz at h
  have:=Pat.szs_len as
  rw[←Pat.szs_sum] at this
  exact⟨by omega,Pat.oks_sz as (by omega)⟩
theorem Pat.oks_sz:∀ l:List Pat,Pat.szs l≤900000→Pat.oks l
 | [],_=>trivial
 | x::xs,h=>by
  unfold Pat.szs at h
  exact⟨x.ok_sz (by omega),Pat.oks_sz xs (by omega)⟩
end
mutual
theorem Xp.ok_sz:∀ t:Xp,t.sz≤900000→t.ok
 | .app a b l c,h=>by
  unfold Xp.sz at h
  exact⟨a.ok_sz (by omega),b.ok_sz (by omega)⟩
 | .row a ops,h=>by
  unfold Xp.sz at h
  have:=Rop.szs_len ops
  rw[←Rop.szs_sum] at this
  exact⟨a.ok_sz (by omega),by omega,Rop.oks_sz ops (by omega)⟩
 | .gen k nm n ps as al bs l c,h=>by
  unfold Xp.sz at h
  have h1:=Xp.szs_len as
  have h2:=Alt.szs_len al
  have h3:=Bnd.szs_len bs
  rw[←Xp.szs_sum] at h1
  rw[←Alt.szs_sum] at h2
  rw[←Bnd.szs_sum] at h3
  exact⟨by omega,by omega,by omega,by omega,Xp.oks_sz as (by omega),Alt.oks_sz al (by omega),Bnd.oks_sz bs (by omega)⟩
theorem Xp.oks_sz:∀ l:List Xp,Xp.szs l≤900000→Xp.oks l
 | [],_=>trivial
 | x::xs,h=>by
  unfold Xp.szs at h
  exact⟨x.ok_sz (by omega),Xp.oks_sz xs (by omega)⟩
theorem Rop.oks_sz:∀ l:List Rop,Rop.szs l≤900000→Rop.oks l
 | [],_=>trivial
 | .mk nm l c x::xs,h=>by
  unfold Rop.szs Rop.sz at h
  exact⟨x.ok_sz (by omega),Rop.oks_sz xs (by omega)⟩
theorem Rhs.ok_sz:∀ t:Rhs,t.sz≤900000→t.ok
 | .mk g b,h=>by
  unfold Rhs.sz at h
  have:=Xp.szs_len g
  rw[←Xp.szs_sum] at this
  exact⟨by omega,Xp.oks_sz g (by omega),b.ok_sz (by omega)⟩
theorem Rhs.oks_sz:∀ l:List Rhs,Rhs.szs l≤900000→Rhs.oks l
 | [],_=>trivial
 | x::xs,h=>by
  unfold Rhs.szs at h
  exact⟨x.ok_sz (by omega),Rhs.oks_sz xs (by omega)⟩
theorem Alt.ok_sz:∀ t:Alt,t.sz≤900000→t.ok
 | .mk p r,h=>by
  unfold Alt.sz at h
  have:=Rhs.szs_len r
  rw[←Rhs.szs_sum] at this
  exact⟨p.ok_sz (by omega),by omega,Rhs.oks_sz r (by omega)⟩
theorem Alt.oks_sz:∀ l:List Alt,Alt.szs l≤900000→Alt.oks l
 | [],_=>trivial
 | x::xs,h=>by
  unfold Alt.szs at h
  exact⟨x.ok_sz (by omega),Alt.oks_sz xs (by omega)⟩
theorem Clause.ok_sz:∀ t:Clause,t.sz≤900000→t.ok
 | .mk p r,h=>by
  unfold Clause.sz at h
  have h1:=Rhs.szs_len r
  have h2:=Pat.szs_len p
  rw[←Rhs.szs_sum] at h1
  rw[←Pat.szs_sum] at h2
  exact⟨by omega,Pat.oks_sz p (by omega),by omega,Rhs.oks_sz r (by omega)⟩
theorem Clause.oks_sz:∀ l:List Clause,Clause.szs l≤900000→Clause.oks l
 | [],_=>trivial
 | x::xs,h=>by
  unfold Clause.szs at h
  exact⟨x.ok_sz (by omega),Clause.oks_sz xs (by omega)⟩
theorem Bnd.ok_sz:∀ t:Bnd,t.sz≤900000→t.ok
 | .mk nm cl cs l c,h=>by
  unfold Bnd.sz at h
  have:=Clause.szs_len cs
  have:=cl.sz_pos
  rw[←Clause.szs_sum] at *
  exact⟨cl.ok_sz (by omega),by omega,Clause.oks_sz cs (by omega)⟩
theorem Bnd.oks_sz:∀ l:List Bnd,Bnd.szs l≤900000→Bnd.oks l
 | [],_=>trivial
 | x::xs,h=>by
  unfold Bnd.szs at h
  exact⟨x.ok_sz (by omega),Bnd.oks_sz xs (by omega)⟩
end
def Loc (A0:Nat→Option (List AV)) (n0:Nat) (A:Nat→Option (List AV)) (N:Nat) (el:El) (v:AV) (xs:List AV):Prop :=
 ∃ d,Gr A N el v xs d∧(∀ a,d=some a→n0≤a)∧Old n0 A A0∧n0≤N∧(xs=[]→v=.nsl)
theorem agrow_wa {s:St} {el k cy v v' A' N'} (h:agrow s el k cy v=some (v',wa s A' N')) (u:St):agrow (wa u s.arr s.nxt) el k cy v=some (v',wa u A' N'):=by
 unfold agrow at h ⊢
 cases v<;>dsimp only at h ⊢ <;> try (cases h;done)
 ·split at h
  ·rename_i h1
   injection h with h;injection h with h2 h3;subst h2
   rw[if_pos h1]
   have e1:s.arr=A':=congrArg St.arr h3
   have e2:s.nxt=N':=congrArg St.nxt h3
   rw[e1,e2]
  ·rename_i h1
   rw[if_neg h1]
   split at h
   ·rename_i h4
    rw[if_pos h4]
    injection h with h;injection h with h2 h3;subst h2
    have e1:upd s.arr s.nxt (some cy)=A':=congrArg St.arr h3
    have e2:s.nxt+1=N':=congrArg St.nxt h3
    rw[←e1,←e2]
    rfl
   ·cases h
 ·split at h
  ·rename_i h1
   injection h with h;injection h with h2 h3;subst h2
   rw[if_pos h1]
   have e1:s.arr=A':=congrArg St.arr h3
   have e2:s.nxt=N':=congrArg St.nxt h3
   rw[e1,e2]
  ·cases h
 ·rename_i a el' n
  show (match s.arr a with|some cs=>_|none=>_)=_
  cases hc:s.arr a with
  | none=>rw[hc] at h;cases h
  | some cs =>
   rw[hc] at h
   dsimp only at h ⊢
   split at h
   ·rename_i h1
    rw[if_pos h1]
    injection h with h;injection h with h2 h3;subst h2
    have e1:upd (upd s.arr a none) s.nxt (some (cs.take (n*el.size)++cy))=A':=congrArg St.arr h3
    have e2:s.nxt+1=N':=congrArg St.nxt h3
    rw[←e1,←e2]
    rfl
   ·cases h
section
variable {A0 A:Nat→Option (List AV)} {n0 N:Nat} {el:El} {v:AV} {xs:List AV}
theorem Loc.nil:Loc A n0 A n0 el .nsl []:=⟨none,Gr.nil,(fun a h=>nomatch h),Old.refl,Nat.le_refl _,fun _=>rfl⟩
theorem Loc.nil' (h:n0≤N) (h':Old n0 A A0):Loc A0 n0 A N el .nsl []:=⟨none,Gr.nil,(fun a h=>nomatch h),h',h,fun _=>rfl⟩
theorem Loc.len (h:Loc A0 n0 A N el v xs):alen false v=some (.i .i64 (xs.length:Nat)):=by obtain⟨d,h,-⟩:=h;exact h.len
theorem Loc.low (h:Loc A0 n0 A N el v xs) (n:Nat):v.low n=true:=by obtain⟨d,h,-⟩:=h;exact h.low n
theorem Loc.old (h:Loc A0 n0 A N el v xs):Old n0 A A0:=by obtain⟨d,h,-,k,-⟩:=h;exact k
theorem Loc.rd (h:Loc A0 n0 A N el v xs) (hs:0<el.size):Rd A el v xs:=by obtain⟨d,h,-⟩:=h;exact h.rd hs
theorem Loc.push {y:AV} {cy:List AV} (h:Loc A0 n0 A N el v xs) (hc:y.cells=cy) (hy:Ele el y) (hm:xs.length+1≤most) :
  ∃ v' A' N',(∀ u,agrow (newAr (wa u A N) cy) el 1 cy v=some (v',wa u A' N'))∧Loc A0 n0 A' N' el v' (xs++[y]):=by
 obtain⟨d,h1,h2,h3,h4,h5⟩:=h
 obtain⟨v',A',N',d',k1,k2,k3,k4,k5,k6⟩:=Gr.push (s:=⟨[],A,N⟩) hc h1 hy hm
 refine⟨v',A',N',fun u=>?_,d',k2,fun a ha=>Nat.le_trans h4 (k5 a ha),fun a ha=>(k4 a (Nat.lt_of_lt_of_le ha h4) (fun hd=>by have:=h2 a hd;omega)).trans (h3 a ha),Nat.le_trans h4 k3,fun h=>by simp at h⟩
 exact agrow_wa (s:=newAr ⟨[],A,N⟩ cy) k1 u
theorem Loc.app {ys:List AV} (h:Loc A0 n0 A N el v xs) (hy:∀ y∈ys,Ele el y) (hm:xs.length+ys.length≤most) :
  ∃ v' A' N',(∀ u,agrow (wa u A N) el ys.length (ys.flatMap AV.cells) v=some (v',wa u A' N'))∧Loc A0 n0 A' N' el v' (xs++ys):=by
 obtain⟨d,h1,h2,h3,h4,h5⟩:=h
 obtain⟨v',A',N',d',k1,k2,k3,k4,k5,k6⟩:=Gr.app (s:=⟨[],A,N⟩) h1 hy hm
 refine⟨v',A',N',fun u=>agrow_wa (s:=⟨[],A,N⟩) k1 u,d',k2,fun a ha=>?_,fun a ha=>(k4 a (Nat.lt_of_lt_of_le ha h4) (fun hd=>by have:=h2 a hd;omega)).trans (h3 a ha),Nat.le_trans h4 k3,fun h=>?_⟩
 ·rcases k5 a ha with h|h
  ·exact h2 a h
  ·exact Nat.le_trans h4 h
 ·rw[List.append_eq_nil_iff] at h
  have:=h5 h.1
  subst this
  refine k6 ?_ h.2
  obtain⟨-,⟨-,-,h⟩|⟨a,cs,h,-⟩⟩:=h1
  ·exact h
  ·cases h
theorem Loc.fin (h:Loc A0 n0 A N el v xs):∃ A',(∀ n s,Am.frz (n+2) v (wa s A N)=some (lst el xs,wa s A' N))∧Old n0 A' A0:=by
 obtain⟨d,h1,h2,h3,h4,h5⟩:=h
 obtain⟨A',k1,k2⟩:=h1.fin h5
 exact⟨A',k1,fun a ha=>(k2 a (fun hd=>by have:=h2 a hd;omega)).trans (h3 a ha)⟩
end
theorem wa_same {s:St}:s=wa s s.arr s.nxt:=(rfl)
section
variable {A:Nat→Option (List AV)} {N:Nat} {el:El} {v:AV} {xs:List AV} {d:Option Nat}
theorem Gr.push' {y:AV} (cy:List AV) (h:Gr A N el v xs d) (hc:y.cells=cy) (hy:Ele el y) (hm:xs.length+1≤most) :
  ∃ v' A' N' d',(∀ u,agrow (newAr (wa u A N) cy) el 1 cy v=some (v',wa u A' N'))∧Gr A' N' el v' (xs++[y]) d'∧N≤N'∧(∀ a,a<N→d≠some a→A' a=A a)∧(∀ a,d'=some a→N≤a)∧v'≠.nsl:=by
 obtain⟨v',A',N',d',k1,k2,k3,k4,k5,k6⟩:=Gr.push (s:=⟨[],A,N⟩) hc h hy hm
 exact⟨v',A',N',d',fun u=>agrow_wa (s:=newAr ⟨[],A,N⟩ cy) k1 u,k2,k3,k4,k5,k6⟩
theorem Gr.app' {ys:List AV} (h:Gr A N el v xs d) (hy:∀ y∈ys,Ele el y) (hm:xs.length+ys.length≤most) :
  ∃ v' A' N' d',(∀ u,agrow (wa u A N) el ys.length (ys.flatMap AV.cells) v=some (v',wa u A' N'))∧Gr A' N' el v' (xs++ys) d'∧N≤N'∧(∀ a,a<N→d≠some a→A' a=A a)∧(∀ a,d'=some a→d=some a∨N≤a)∧(d=none→ys=[]→v'=.nsl):=by
 obtain⟨v',A',N',d',k1,k2,k3,k4,k5,k6⟩:=Gr.app (s:=⟨[],A,N⟩) h hy hm
 exact⟨v',A',N',d',fun u=>agrow_wa (s:=⟨[],A,N⟩) k1 u,k2,k3,k4,k5,k6⟩
end
theorem tk_eq {s t:St} (h:cnt s≤cnt t) (ho:∀ r,r<cnt s→obj t r=obj s r):tk (cnt s) t=wa s t.arr t.nxt:=by
 have:t.objs.take (cnt s)=s.objs:=by
  apply List.ext_getElem?
  intro i
  rw[List.getElem?_take]
  split
  ·rename_i hi;exact ho i hi
  ·rename_i hi;exact (List.getElem?_eq_none (show s.objs.length≤i from Nat.le_of_not_lt hi)).symm
 unfold tk wa
 rw[this]
theorem cut_eq {s t:St} {v:AV} (hv:v.low (cnt s)=true) (h:cnt s≤cnt t) (ho:∀ r,r<cnt s→obj t r=obj s r):cut (cnt s) v t=wa s t.arr t.nxt:=by
 rw[cut_low hv];exact tk_eq h ho
end Go.Am
namespace Go.Am
open Go
abbrev RX (x:Xp):Prop:=∀ s,Yn 110 [x.av] s
theorem rb_inner (cs:List Clause) (hl:cs.length≤900000) (ok:∀ c∈cs,c.ok) (H:∀ c∈cs,∀ r∈c.rhs,∀ x∈r.parts,RX x) (bs:Nat) (v:AV) (hv:∀ n,v.low n=true) (a b:Int) (s:St) :
  W (E F0 X0 bs l40_0 [(0,v),(7,v),(8,.i .i64 a),(9,.i .i64 b),(40,lst (.st 2) (cs.map Clause.av)),(41,.i .i64 (cs.length:Int)),(42,.i .i64 0)] s) fun q =>
   q=(.exit 2,[(0,v),(7,v),(8,.i .i64 a),(9,.i .i64 b),(40,lst (.st 2) (cs.map Clause.av)),(41,.i .i64 (cs.length:Int)),(42,.i .i64 (cs.length:Int)),(43,.b false)],s)∨∃ b,q=(.ret,[(2,.b b)],s):=by
 refine W.range (n:=cs.length) (L:=l40_0) rfl (fun i e t=>e=[(0,v),(7,v),(8,.i .i64 a),(9,.i .i64 b),(40,lst (.st 2) (cs.map Clause.av)),(41,.i .i64 (cs.length:Int)),(42,.i .i64 (i:Int))]∧t=s) ?_ ?_ 0 _ _ (Nat.zero_le _) ⟨rfl,rfl⟩
 ·rintro i e t ⟨rfl,rfl⟩ hi
  have h1:=List.getElem?_eq_getElem hi
  have hm:=List.getElem_mem hi
  generalize cs[i]=c at h1 hm
  have okc:=Clause.ok_parts (ok c hm)
  have h2:∀ k,aiad (.st 2) (lst (.st 2) (cs.map Clause.av)) (.i k (i:Int))=some (.ep c.av.cells 0):=fun k=>lst_iad rfl (by rw[List.getElem?_map,h1];rfl)
  have h3:decide ((i:Int)<(cs.length:Int))=true:=by simp;omega
  have h5:=@wrap_one i (by omega)
  have hp:=fun s=>yb_eq (allPat_tot (c.pats.map Pat.av) (mem_map_of fun x _=>x.ele) (by have:=okc.1;simp;omega) 76 [] s (fun _=>rfl) (mem_map_of fun x hx s=>RightPat_all x (okc.2.1 x hx) s))
  have hr:=fun s=>yb_eq (rightRhs_tot c.rhs okc.2.2.1 (H c hm) s)
  simp only[go_sem,reduceCtorEq,↓reduceIte,nA,nB,nC,nD,nE,iA,iB,iC,iD,iE,iF,h2,h3,h5,hp,hv,Nat.le_refl]
  repeat' (refine W.ifc (fun h=>?_) (fun h=>?_)<;>simp only[go_sem,reduceCtorEq,↓reduceIte,nA,nB,nC,nD,nE,iA,iB,iC,iD,iE,iF,h,h5,hr,hv])
  all_goals exact .inr ⟨_,rfl⟩
 ·rintro e t ⟨rfl,rfl⟩
  have h3:decide ((cs.length:Int)<(cs.length:Int))=false:=by simp
  simp only[go_sem,reduceCtorEq,↓reduceIte,nA,nB,nC,nD,nE,iA,iB,iC,iD,iE,iF,h3,hv]
  exact .inl trivial
theorem rightBinds_tot (l:List Bnd) (hl:l.length≤900000) (ok:∀ b∈l,b.ok) (H:∀ b∈l,∀ c∈b.cls,∀ r∈c.rhs,∀ x∈r.parts,RX x) (s:St) {v:AV} (hr:Rd s.arr (.st 4) v (l.map Bnd.av)):Yn 40 [v] s:=by
 refine yn_of ?_
 have hv:=hr.low
 have hvl:=hr.len
 rw[List.length_map] at hvl
 rw[w_call (f:=40) rfl]
 simp only[go_sem,reduceCtorEq,↓reduceIte,nA,nB,nC,nD,nE,iA,iB,iC,iD,iE,iF,hvl]
 refine W.step (W.range (n:=l.length) (Q:=fun q=>(∃ e,q=(.exit 0,e,s))∨∃ b e,get e 2=some (.b b)∧q=(.ret,e,s)) (L:=l40_1) rfl (fun i e t=>e=[(0,v),(7,v),(8,.i .i64 (l.length:Int)),(9,.i .i64 (i:Int))]∧t=s) ?_ ?_ 0 _ _ (Nat.zero_le _) ⟨rfl,rfl⟩) ?_
 ·rintro i e t ⟨rfl,rfl⟩ hi
  have h1:=List.getElem?_eq_getElem hi
  have hm:=List.getElem_mem hi
  generalize l[i]=b at h1 hm
  have okb:=Bnd.ok_cls (ok b hm)
  obtain⟨p,h2,g2,-⟩:=hr.ld i b.av (by rw[List.getElem?_map,h1];rfl)
  have g2':=g2 t rfl
  have h3:decide ((i:Int)<(l.length:Int))=true:=by simp;omega
  have h5:=@wrap_one i (by omega)
  have hin:=fun bs t=>rb_inner b.cls okb.1 okb.2 (H b hm) bs v hv (l.length:Int) (i:Int) t
  simp only[go_sem,reduceCtorEq,↓reduceIte,nA,nB,nC,nD,nE,iA,iB,iC,iD,iE,iF,h2,g2',h3,h5,hv,Nat.le_refl,List.length_map]
  refine W.ifc (fun h=>?_) (fun h=>?_)
  ·obtain⟨j,rfl⟩:∃ j,i=j+1:=⟨i - 1,by simp at h;omega⟩
   have w1:IntKind.i64.wrap (((j+1:Nat):Int) - 1)=(j:Int):=by rw[←wrap_nat (n:=j) (by omega)];congr 1;omega
   have h6:=List.getElem?_eq_getElem (show j<l.length by omega)
   generalize l[j]=b2 at h6
   obtain⟨p2,h7,-,g7⟩:=hr.ld j b2.av (by rw[List.getElem?_map,h6];rfl)
   obtain⟨p3,g8,g9⟩:=g7 0 .one (by rw[Bnd.cells_eq];show 0+1≤4;omega)
   have g9':=g9 (ex t [.cells b.av.cells]) rfl
   rw[Bnd.cells_eq,Bnd.cells_eq] at g9'
   simp only[go_sem,reduceCtorEq,↓reduceIte,nA,nB,nC,nD,nE,iA,iB,iC,iD,iE,iF,h,w1,h7,g8,g9',List.length_map]
   repeat' (first|(refine W.ifc (fun h=>?_) (fun h=>?_)<;>simp only[go_sem,reduceCtorEq,↓reduceIte,nA,nB,nC,nD,nE,iA,iB,iC,iD,iE,iF,h,h5,hv,List.length_map])|(refine W.step (hin _ _) ?_;rintro q (rfl|⟨b,rfl⟩)<;>simp only[go_sem,reduceCtorEq,↓reduceIte,nA,nB,nC,nD,nE,iA,iB,iC,iD,iE,iF,h5,hv]))
   all_goals exact .inr ⟨_,_,rfl,rfl⟩
  ·simp only[go_sem,reduceCtorEq,↓reduceIte,nA,nB,nC,nD,nE,iA,iB,iC,iD,iE,iF,h,List.length_map]
   repeat' (first|(refine W.ifc (fun h=>?_) (fun h=>?_)<;>simp only[go_sem,reduceCtorEq,↓reduceIte,nA,nB,nC,nD,nE,iA,iB,iC,iD,iE,iF,h,h5,hv,List.length_map])|(refine W.step (hin _ _) ?_;rintro q (rfl|⟨b,rfl⟩)<;>simp only[go_sem,reduceCtorEq,↓reduceIte,nA,nB,nC,nD,nE,iA,iB,iC,iD,iE,iF,h5,hv]))
   all_goals exact .inr ⟨_,_,rfl,rfl⟩
 ·rintro e t ⟨rfl,rfl⟩
  have h3:decide ((l.length:Int)<(l.length:Int))=false:=by simp
  simp only[go_sem,reduceCtorEq,↓reduceIte,nA,nB,nC,nD,nE,iA,iB,iC,iD,iE,iF,h3,hv]
  exact .inl ⟨_,rfl⟩
 ·rintro q (⟨e,rfl⟩|⟨b,e,h4,rfl⟩)
  ·simp only[go_sem,reduceCtorEq,↓reduceIte,nA,nB,nC,nD,nE,iA,iB,iC,iD,iE,iF]
   exact⟨_,rfl⟩
  ·simp only[go_sem,reduceCtorEq,↓reduceIte,nA,nB,nC,nD,nE,iA,iB,iC,iD,iE,iF,h4]
   exact⟨_,rfl⟩
theorem Alt.parts_size {a:Alt} {r:Rhs} {x:Xp} (hr:r∈a.rhs) (hx:x∈r.parts):SizeOf.sizeOf x<SizeOf.sizeOf a:=by
 have h1:=Alt.size hr
 simp only[Rhs.parts,List.mem_append,List.mem_singleton] at hx
 rcases hx with hx|rfl
 ·have:=Rhs.size_guard hx;omega
 ·have:=@Rhs.size_body r;omega
theorem Bnd.parts_size {b:Bnd} {c:Clause} {r:Rhs} {x:Xp} (hc:c∈b.cls) (hr:r∈c.rhs) (hx:x∈r.parts):SizeOf.sizeOf x<SizeOf.sizeOf b:=by
 have h1:=Clause.size hr
 have h2:=Bnd.size hc
 simp only[Rhs.parts,List.mem_append,List.mem_singleton] at hx
 rcases hx with hx|rfl
 ·have:=Rhs.size_guard hx;omega
 ·have:=@Rhs.size_body r;omega
theorem Rhs.ok_part {r:Rhs} (h:r.ok) {x:Xp} (hx:x∈r.parts):x.ok:=by
 have:=Rhs.ok_parts h
 simp only[Rhs.parts,List.mem_append,List.mem_singleton] at hx
 rcases hx with hx|rfl
 ·exact this.2.1 x hx
 ·exact this.2.2
theorem RightExpr_tot:∀ (n:Nat) (e:Xp),SizeOf.sizeOf e<n→e.ok→RX e:=by
 intro n
 induction n with
 | zero=>intro p h;omega
 | succ n ih =>
  intro e hn ok s
  refine yn_of ?_
  have hargs:=fun s=>yb_eq (allExp_tot (e.args.map Xp.av) (mem_map_of fun x _=>x.ele) (by have:=(Xp.ok_args ok).1;simp;omega) 110 [] s (fun _=>rfl) (mem_map_of fun x hx s=>ih x (by have:=Xp.size hx;omega) ((Xp.ok_args ok).2 x hx) s))
  have halts:=fun s=>yb_eq (allAlt_tot (e.alts.map Alt.av) (mem_map_of fun x _=>x.ele) (by have:=(Xp.ok_alts ok).1;simp;omega) 133 [] s (fun _=>rfl) (mem_map_of fun a ha s=>rightAlt_tot a ((Xp.ok_alts ok).2 a ha) (fun r hr x hx=>ih x (by have:=Alt.parts_size hr hx;have:=Xp.size_alt ha;omega) (Rhs.ok_part ((Alt.ok_parts ((Xp.ok_alts ok).2 a ha)).2.2 r hr) hx)) s))
  have hpar:=fun s=>yb_eq (allStr_tot (strs e.params) strs_ele (by have:=Xp.ok_params ok;simp[strs];omega) 131 [] s (fun _=>rfl) (mem_map_of fun x hx s=>param_tot x s))
  have hbin:=fun s=>yb_eq (rightBinds_tot e.binds (Xp.ok_binds ok).1 (Xp.ok_binds ok).2 (fun b hb c hc r hr x hx=>ih x (by have:=Bnd.parts_size hc hr hx;have:=Xp.size_bind hb;omega) (Rhs.ok_part ((Clause.ok_parts ((Bnd.ok_cls ((Xp.ok_binds ok).2 b hb)).2 c hc)).2.2.2 r hr) hx)) s (Rd.lst (mem_map_of fun x _=>x.ele)))
  rw[w_call (f:=110) rfl]
  rcases Xp.kinds e with hk|hk|hk|hk|hk|hk|hk|hk|hk|hk
  ·simp only[go_sem,reduceCtorEq,↓reduceIte,nA,nB,nC,nD,nE,iA,iB,iC,iD,iE,iF,hk,Int.reduceNeg]
   repeat' (refine W.ifc (fun h=>?_) (fun h=>?_)<;>simp only[go_sem,reduceCtorEq,↓reduceIte,nA,nB,nC,nD,nE,iA,iB,iC,iD,iE,iF,h,hargs])
   all_goals exact⟨_,rfl⟩
  all_goals
   have hb:=Xp.bvs_eq (e:=e) (by omega)
   simp only[go_sem,reduceCtorEq,↓reduceIte,nA,nB,nC,nD,nE,iA,iB,iC,iD,iE,iF,hk,hb,List.length_map]
   repeat' (refine W.ifc (fun h=>?_) (fun h=>?_)<;>simp only[go_sem,reduceCtorEq,↓reduceIte,nA,nB,nC,nD,nE,iA,iB,iC,iD,iE,iF,h,hargs,halts,hpar,hbin,List.length_map])
   all_goals exact⟨_,rfl⟩
theorem RightExpr_all (e:Xp) (ok:e.ok):RX e:=RightExpr_tot _ e (Nat.lt_succ_self _) ok
theorem rightBinds_all (l:List Bnd) (hl:l.length≤900000) (ok:∀ b∈l,b.ok) (s:St) {v:AV} (hr:Rd s.arr (.st 4) v (l.map Bnd.av)):Yn 40 [v] s :=
 rightBinds_tot l hl ok (fun b hb c hc r hr x hx=>RightExpr_all x (Rhs.ok_part ((Clause.ok_parts ((Bnd.ok_cls (ok b hb)).2 c hc)).2.2.2 r hr) hx)) s hr
structure Prog where
 datas:List Data
 fixes:List FixT
 binds:List Bnd
def Prog.av (p:Prog):AV:=.agg [lst (.st 5) (p.datas.map Data.av),lst (.st 5) (p.fixes.map FixT.av),lst (.st 4) (p.binds.map Bnd.av)]
@[go_sem] theorem Prog.cells_eq (p:Prog):p.av.cells=[lst (.st 5) (p.datas.map Data.av),lst (.st 5) (p.fixes.map FixT.av),lst (.st 4) (p.binds.map Bnd.av)]:=(rfl)
@[go_sem] theorem Prog.fld {k el} (p:Prog):afld k el p.av=el.get [lst (.st 5) (p.datas.map Data.av),lst (.st 5) (p.fixes.map FixT.av),lst (.st 4) (p.binds.map Bnd.av)] k:=(rfl)
structure Prog.ok (p:Prog):Prop where
 ld:p.datas.length≤900000
 lf:p.fixes.length≤900000
 lb:p.binds.length≤900000
 d:∀ x∈p.datas,x.ok
 b:∀ x∈p.binds,x.ok
theorem Right_tot (p:Prog) (ok:p.ok) (s:St):Yn 18 [p.av] s:=by
 refine yn_of ?_
 have h1:=fun s=>yb_eq (allData_tot (p.datas.map Data.av) (mem_map_of fun x _=>x.ele) (by have:=ok.ld;simp;omega) 37 [] s (fun _=>rfl) (mem_map_of fun x hx s=>rightData_tot x (ok.d x hx) s))
 have h2:=fun s=>yb_eq (allFix_tot (p.fixes.map FixT.av) (mem_map_of fun x _=>x.ele) (by have:=ok.lf;simp;omega) 39 [] s (fun _=>rfl) (mem_map_of fun x hx s=>rightFix_tot x s))
 have h3:=fun s=>yb_eq (rightBinds_all p.binds ok.lb ok.b s (Rd.lst (mem_map_of fun x _=>x.ele)))
 rw[w_call (f:=18) rfl]
 simp only[go_sem,reduceCtorEq,↓reduceIte,nA,nB,nC,nD,nE,iA,iB,iC,iD,iE,iF,h1]
 repeat' (refine W.ifc (fun h=>?_) (fun h=>?_)<;>simp only[go_sem,reduceCtorEq,↓reduceIte,nA,nB,nC,nD,nE,iA,iB,iC,iD,iE,iF,h,h2,h3])
 all_goals exact⟨_,rfl⟩
theorem Right_one (b:Bnd) (ok:b.ok) (s:St) {v:AV} (hr:Rd s.arr (.st 4) v [b.av]):Yn 18 [.agg [.nsl,.nsl,v]] s:=by
 refine yn_of ?_
 have h1:=fun s=>yb_eq (allData_tot [] (fun x h=>nomatch h) (Nat.zero_le _) 37 [] s (fun _=>rfl) (fun x h=>nomatch h))
 have h2:=fun s=>yb_eq (allFix_tot [] (fun x h=>nomatch h) (Nat.zero_le _) 39 [] s (fun _=>rfl) (fun x h=>nomatch h))
 rw[lst_nil] at h1 h2
 have h3:=fun l=>yb_eq (rightBinds_all [b] (by simp) (by intro x hx;rw[List.mem_singleton.1 hx];exact ok) (ex s l) (v:=v) hr)
 rw[w_call (f:=18) rfl]
 simp only[go_sem,reduceCtorEq,↓reduceIte,nA,nB,nC,nD,nE,iA,iB,iC,iD,iE,iF,h1]
 repeat' (refine W.ifc (fun h=>?_) (fun h=>?_)<;>simp only[go_sem,reduceCtorEq,↓reduceIte,nA,nB,nC,nD,nE,iA,iB,iC,iD,iE,iF,h,h2,h3])
 all_goals exact⟨_,rfl⟩
end Go.Am
namespace Go.Am
open Go
theorem strs_len {l:List Str}:(strs l).length=l.length:=by simp[strs]
theorem has_tot {v:AV} {xs:List Str} (t:Str) (s:St) (hr:Rd s.arr .one v (strs xs)) (hl:xs.length≤1000000):Yn 20 [v,.s t] s:=by
 refine yn_of ?_
 have hlow:=hr.low
 have hlen:=hr.len
 rw[strs_len] at hlen
 rw[w_call (f:=20) rfl]
 simp only[go_sem,reduceCtorEq,↓reduceIte,nA,nB,nC,nD,nE,iA,iB,iC,iD,iE,iF,hlen]
 refine W.step (W.range (n:=xs.length) (Q:=fun q=>(∃ e,q=(.exit 0,e,s))∨∃ b e,get e 4=some (.b b)∧q=(.ret,e,s)) (L:=l20_0) rfl (fun i e t'=>e=[(1,.s t),(7,v),(8,.i .i64 (xs.length:Int)),(9,.i .i64 (i:Int))]∧t'=s) ?_ ?_ 0 _ _ (Nat.zero_le _) ⟨rfl,rfl⟩) ?_
 ·rintro i e t' ⟨rfl,rfl⟩ hi
  obtain⟨p,h1,h2,-⟩:=hr.ld i (.s xs[i]) (by simp[strs])
  have h2':=h2 t' rfl
  have h3:decide ((i:Int)<(xs.length:Int))=true:=by simp;omega
  have h5:=@wrap_one i (by omega)
  simp only[go_sem,reduceCtorEq,↓reduceIte,nA,nB,nC,nD,nE,iA,iB,iC,iD,iE,iF,h1,h2',h3,h5,hlow]
  refine W.ifc (fun h=>?_) (fun h=>?_)
  ·simp only[go_sem,reduceCtorEq,↓reduceIte,nA,nB,nC,nD,nE,iA,iB,iC,iD,iE,iF,h,h5]
   exact .inr ⟨_,_,rfl,rfl⟩
  ·simp only[go_sem,reduceCtorEq,↓reduceIte,nA,nB,nC,nD,nE,iA,iB,iC,iD,iE,iF,h,h5]
 ·rintro e t' ⟨rfl,rfl⟩
  have h3:decide ((xs.length:Int)<(xs.length:Int))=false:=by simp
  simp only[go_sem,reduceCtorEq,↓reduceIte,nA,nB,nC,nD,nE,iA,iB,iC,iD,iE,iF,h3]
  exact .inl ⟨_,rfl⟩
 ·rintro q (⟨e,rfl⟩|⟨b,e,h4,rfl⟩)
  ·simp only[go_sem,reduceCtorEq,↓reduceIte,nA,nB,nC,nD,nE,iA,iB,iC,iD,iE,iF]
   exact⟨_,rfl⟩
  ·simp only[go_sem,reduceCtorEq,↓reduceIte,nA,nB,nC,nD,nE,iA,iB,iC,iD,iE,iF,h4]
   exact⟨_,rfl⟩
theorem strs_push {ys:List Str} {t:Str}:strs ys++[.s t]=strs (ys++[t]):=by simp[strs]
theorem strs_app {ys zs:List Str}:strs ys++strs zs=strs (ys++zs):=by simp[strs]
theorem real_tot (l:List Str) (hl:l.length≤900000) (s:St):∃ ys:List Str,ys.length≤l.length∧C F0 X0 121 [lst .one (strs l)] s=some (lst .one (strs ys),s):=by
 suffices h:W (C F0 X0 121 [lst .one (strs l)] s) fun q=>∃ ys:List Str,ys.length≤l.length∧q=(lst .one (strs ys),s) by
  obtain⟨r,h1,ys,h2,rfl⟩:=h;exact⟨ys,h2,h1⟩
 rw[w_call (f:=121) rfl]
 simp only[go_sem,reduceCtorEq,↓reduceIte,nA,nB,nC,nD,nE,iA,iB,iC,iD,iE,iF,strs_len]
 refine W.step (W.range (n:=l.length) (Q:=fun q=>∃ ys v A N e,ys.length≤l.length∧get e 3=some v∧q=(.exit 0,e,wa s A N)∧Loc s.arr s.nxt A N .one v (strs ys)) (L:=l121_0) rfl (fun i e t=>∃ ys v A N,ys.length≤i∧e=[(3,v),(6,lst .one (strs l)),(7,.i .i64 (l.length:Int)),(8,.i .i64 (i:Int))]∧t=wa s A N∧Loc s.arr s.nxt A N .one v (strs ys)) ?_ ?_ 0 _ _ (Nat.zero_le _) ⟨[],.nsl,s.arr,s.nxt,Nat.le_refl _,rfl,rfl,Loc.nil⟩) ?_
 ·rintro i e t ⟨ys,v,A,N,hy,rfl,rfl,hL⟩ hi
  have h1:∀ k,aiad .one (lst .one (strs l)) (.i k (i:Int))=some (.ep [.s l[i]] 0):=fun k=>lst_iad (x:=.s l[i]) rfl (by simp[strs])
  have h3:decide ((i:Int)<(l.length:Int))=true:=by simp;omega
  have h5:=@wrap_one i (by omega)
  have hlow:=hL.low
  simp only[go_sem,reduceCtorEq,↓reduceIte,nA,nB,nC,nD,nE,iA,iB,iC,iD,iE,iF,h1,h3,h5,hlow]
  refine W.ifc (fun h=>?_) (fun h=>?_)
  ·simp only[go_sem,reduceCtorEq,↓reduceIte,nA,nB,nC,nD,nE,iA,iB,iC,iD,iE,iF,h,h5,hlow]
   exact⟨ys,v,A,N,by omega,rfl,rfl,hL⟩
  ·obtain⟨v',A',N',k1,k2⟩:=hL.push (y:=.s l[i]) (cy:=[.s l[i]]) rfl (ele_one rfl) (by rw[strs_len];unfold most;omega)
   simp only[go_sem,reduceCtorEq,↓reduceIte,nA,nB,nC,nD,nE,iA,iB,iC,iD,iE,iF,h,h5,k1,k2.low]
   exact⟨ys++[l[i]],v',A',N',by simp;omega,rfl,rfl,strs_push▸k2⟩
 ·rintro e t ⟨ys,v,A,N,hy,rfl,rfl,hL⟩
  have h3:decide ((l.length:Int)<(l.length:Int))=false:=by simp
  simp only[go_sem,reduceCtorEq,↓reduceIte,nA,nB,nC,nD,nE,iA,iB,iC,iD,iE,iF,h3,hL.low]
  exact⟨ys,v,A,N,_,hy,rfl,rfl,hL⟩
 ·rintro q ⟨ys,v,A,N,e,hy,h4,rfl,hL⟩
  obtain⟨A',k1,k2⟩:=hL.fin
  simp only[go_sem,reduceCtorEq,↓reduceIte,nA,nB,nC,nD,nE,iA,iB,iC,iD,iE,iF,h4,k1 19998]
  exact⟨ys,hy,by rw[back_wa k2 lst_alow]⟩
theorem names_tot (l:List Bnd) (hl:l.length≤900000) (s:St):∃ ys:List Str,ys.length≤l.length∧C F0 X0 122 [lst (.st 4) (l.map Bnd.av)] s=some (lst .one (strs ys),s):=by
 suffices h:W (C F0 X0 122 [lst (.st 4) (l.map Bnd.av)] s) fun q=>∃ ys:List Str,ys.length≤l.length∧q=(lst .one (strs ys),s) by
  obtain⟨r,h1,ys,h2,rfl⟩:=h;exact⟨ys,h2,h1⟩
 rw[w_call (f:=122) rfl]
 simp only[go_sem,reduceCtorEq,↓reduceIte,nA,nB,nC,nD,nE,iA,iB,iC,iD,iE,iF,List.length_map]
 refine W.step (W.range (n:=l.length) (Q:=fun q=>∃ ys v A N e,ys.length≤l.length∧get e 3=some v∧q=(.exit 0,e,wa s A N)∧Loc s.arr s.nxt A N .one v (strs ys)) (L:=l122_0) rfl (fun i e t=>∃ ys v A N,ys.length≤i∧e=[(3,v),(6,lst (.st 4) (l.map Bnd.av)),(7,.i .i64 (l.length:Int)),(8,.i .i64 (i:Int))]∧t=wa s A N∧Loc s.arr s.nxt A N .one v (strs ys)) ?_ ?_ 0 _ _ (Nat.zero_le _) ⟨[],.nsl,s.arr,s.nxt,Nat.le_refl _,rfl,rfl,Loc.nil⟩) ?_
 ·rintro i e t ⟨ys,v,A,N,hy,rfl,rfl,hL⟩ hi
  have h0:=List.getElem?_eq_getElem hi
  generalize l[i]=b at h0
  have h1:∀ k,aiad (.st 4) (lst (.st 4) (l.map Bnd.av)) (.i k (i:Int))=some (.ep b.av.cells 0):=fun k=>lst_iad rfl (by rw[List.getElem?_map,h0];rfl)
  have h3:decide ((i:Int)<(l.length:Int))=true:=by simp;omega
  have h5:=@wrap_one i (by omega)
  obtain⟨v',A',N',k1,k2⟩:=hL.push (y:=.s b.name) (cy:=[.s b.name]) rfl (ele_one rfl) (by rw[strs_len];unfold most;omega)
  simp only[go_sem,reduceCtorEq,↓reduceIte,nA,nB,nC,nD,nE,iA,iB,iC,iD,iE,iF,h1,h3,h5,hL.low,k1,k2.low]
  exact⟨ys++[b.name],v',A',N',by simp;omega,rfl,rfl,strs_push▸k2⟩
 ·rintro e t ⟨ys,v,A,N,hy,rfl,rfl,hL⟩
  have h3:decide ((l.length:Int)<(l.length:Int))=false:=by simp
  simp only[go_sem,reduceCtorEq,↓reduceIte,nA,nB,nC,nD,nE,iA,iB,iC,iD,iE,iF,h3,hL.low]
  exact⟨ys,v,A,N,_,hy,rfl,rfl,hL⟩
 ·rintro q ⟨ys,v,A,N,e,hy,h4,rfl,hL⟩
  obtain⟨A',k1,k2⟩:=hL.fin
  simp only[go_sem,reduceCtorEq,↓reduceIte,nA,nB,nC,nD,nE,iA,iB,iC,iD,iE,iF,h4,k1 19998]
  exact⟨ys,hy,by rw[back_wa k2 lst_alow]⟩
theorem sign_tot (e:Xp) (s:St):Yn 120 [e.av] s:=by
 refine yn_of ?_
 rw[w_call (f:=120) rfl]
 simp only[go_sem,reduceCtorEq,↓reduceIte,nA,nB,nC,nD,nE,iA,iB,iC,iD,iE,iF,Tok.av]
 repeat' (refine W.ifc (fun h=>?_) (fun h=>?_)<;>simp only[go_sem,reduceCtorEq,↓reduceIte,nA,nB,nC,nD,nE,iA,iB,iC,iD,iE,iF,h])
 all_goals exact⟨_,rfl⟩
theorem Vars_tot:∀ (n:Nat) (p:Pat),p.sz<n→p.sz≤900000→∀ s,∃ ys:List Str,ys.length≤p.sz∧C F0 X0 85 [p.av] s=some (lst .one (strs ys),s):=by
 intro n
 induction n with
 | zero=>intro p h;omega
 | succ n ih =>
  intro p hn hp s
  have ok:=Pat.ok_sz p hp
  have hok:=Pat.ok_args ok
  have hsz:=Pat.sz_eq p
  suffices h:W (C F0 X0 85 [p.av] s) fun q=>∃ ys:List Str,ys.length≤p.sz∧q=(lst .one (strs ys),s) by
   obtain⟨r,h1,ys,h2,rfl⟩:=h;exact⟨ys,h2,h1⟩
  have hR:=fun s=>RightPat_eq p ok s
  rw[w_call (f:=85) rfl]
  simp only[go_sem,reduceCtorEq,↓reduceIte,nA,nB,nC,nD,nE,iA,iB,iC,iD,iE,iF,hR]
  have main:∀ (v:AV) (y0:List Str) (A:Nat→Option (List AV)) (N:Nat) (t0:St),y0.length≤1→Loc s.arr s.nxt A N .one v (strs y0)→t0=wa (ex s [.cells [.i .i64 p.kind,.s p.name,.i .i64 p.n,lst (.st 6) (p.args.map Pat.av),.i .i64 p.l,.i .i64 p.c]]) A N→∀ bs,W (E F0 X0 bs l85_0 [(3,v),(19,lst (.st 6) (p.args.map Pat.av)),(20,.i .i64 (p.args.length:Int)),(21,.i .i64 0)] t0) fun q=>∃ ys v A N e,ys.length≤p.sz∧get e 3=some v∧q=(.exit 0,e,wa (ex s [.cells [.i .i64 p.kind,.s p.name,.i .i64 p.n,lst (.st 6) (p.args.map Pat.av),.i .i64 p.l,.i .i64 p.c]]) A N)∧Loc s.arr s.nxt A N .one v (strs ys):=by
   intro v y0 A N t0 hy0 hL ht0 bs
   refine W.range (n:=p.args.length) (L:=l85_0) rfl (fun i e t=>∃ ys v A N,ys.length≤1+psum Pat.sz p.args i∧e=[(3,v),(19,lst (.st 6) (p.args.map Pat.av)),(20,.i .i64 (p.args.length:Int)),(21,.i .i64 (i:Int))]∧t=wa (ex s [.cells [.i .i64 p.kind,.s p.name,.i .i64 p.n,lst (.st 6) (p.args.map Pat.av),.i .i64 p.l,.i .i64 p.c]]) A N∧Loc s.arr s.nxt A N .one v (strs ys)) ?_ ?_ 0 _ _ (Nat.zero_le _) ⟨y0,v,A,N,by rw[psum_0];exact hy0,rfl,ht0,hL⟩
   ·rintro i e t ⟨ys,v,A,N,hy,rfl,rfl,hL⟩ hi
    have h0:=List.getElem?_eq_getElem hi
    have hm:=List.getElem_mem hi
    generalize p.args[i]=a at h0 hm
    have h1:∀ k,aiad (.st 6) (lst (.st 6) (p.args.map Pat.av)) (.i k (i:Int))=some (.ep a.av.cells 0):=fun k=>lst_iad rfl (by rw[List.getElem?_map,h0];rfl)
    have h3:decide ((i:Int)<(p.args.length:Int))=true:=by simp;omega
    have h5:=@wrap_one i (by omega)
    have h6:=psum_lt (f:=Pat.sz) h0
    have h7:=psum_succ (f:=Pat.sz) h0
    obtain⟨zs,hz,hc⟩:=ih a (by omega) (by omega) (wa (ex s [.cells [.i .i64 p.kind,.s p.name,.i .i64 p.n,lst (.st 6) (p.args.map Pat.av),.i .i64 p.l,.i .i64 p.c],.cells a.av.cells]) A N)
    rw[Pat.cells_eq] at hc
    obtain⟨v',A',N',k1,k2⟩:=hL.app (ys:=strs zs) strs_ele (by rw[strs_len,strs_len];unfold most;omega)
    simp only[go_sem,reduceCtorEq,↓reduceIte,nA,nB,nC,nD,nE,iA,iB,iC,iD,iE,iF,h1,h3,h5,hL.low,hc,k1,k2.low]
    exact⟨ys++zs,v',A',N',by rw[List.length_append];omega,rfl,rfl,strs_app▸k2⟩
   ·rintro e t ⟨ys,v,A,N,hy,rfl,rfl,hL⟩
    have h3:decide ((p.args.length:Int)<(p.args.length:Int))=false:=by simp
    have h6:=@psum_le _ Pat.sz p.args p.args.length
    simp only[go_sem,reduceCtorEq,↓reduceIte,nA,nB,nC,nD,nE,iA,iB,iC,iD,iE,iF,h3,hL.low]
    exact⟨ys,v,A,N,_,by omega,rfl,rfl,hL⟩
  refine W.ifc (fun h=>?_) (fun h=>?_)
  ·simp only[go_sem,reduceCtorEq,↓reduceIte,nA,nB,nC,nD,nE,iA,iB,iC,iD,iE,iF,h]
   refine W.ifc (fun h=>?_) (fun h=>?_)
   ·obtain⟨v',A',N',k1,k2⟩:=(Loc.nil (A:=s.arr) (n0:=s.nxt) (el:=.one)).push (y:=.s p.name) (cy:=[.s p.name]) rfl (ele_one rfl) (by show 0+1≤most;unfold most;omega)
    have k1':∀ l,agrow (newAr (ex s l) [.s p.name]) .one 1 [.s p.name] .nsl=some (v',wa (ex s l) A' N'):=fun l=>k1 (ex s l)
    simp only[go_sem,reduceCtorEq,↓reduceIte,nA,nB,nC,nD,nE,iA,iB,iC,iD,iE,iF,h,k1',List.length_map]
    refine W.step (main _ [p.name] _ _ _ (Nat.le_refl 1) (show Loc s.arr s.nxt A' N' .one v' (strs [p.name]) from k2) rfl _) ?_
    rintro q ⟨ys,v,A,N,e,hy,h4,rfl,hL⟩
    obtain⟨A',k1,k2⟩:=hL.fin
    simp only[go_sem,reduceCtorEq,↓reduceIte,nA,nB,nC,nD,nE,iA,iB,iC,iD,iE,iF,h4,k1 19998]
    exact⟨ys,hy,by rw[back_wa k2 lst_alow]⟩
   ·simp only[go_sem,reduceCtorEq,↓reduceIte,nA,nB,nC,nD,nE,iA,iB,iC,iD,iE,iF,h,List.length_map]
    refine W.step (main _ [] _ _ _ (Nat.zero_le 1) (show Loc s.arr s.nxt s.arr s.nxt .one .nsl (strs []) from Loc.nil) rfl _) ?_
    rintro q ⟨ys,v,A,N,e,hy,h4,rfl,hL⟩
    obtain⟨A',k1,k2⟩:=hL.fin
    simp only[go_sem,reduceCtorEq,↓reduceIte,nA,nB,nC,nD,nE,iA,iB,iC,iD,iE,iF,h4,k1 19998]
    exact⟨ys,hy,by rw[back_wa k2 lst_alow]⟩
  ·simp only[go_sem,reduceCtorEq,↓reduceIte,nA,nB,nC,nD,nE,iA,iB,iC,iD,iE,iF,h]
   exact⟨[],Nat.zero_le _,rfl⟩
theorem Vars_all (p:Pat) (hp:p.sz≤900000) (s:St):∃ ys:List Str,ys.length≤p.sz∧C F0 X0 85 [p.av] s=some (lst .one (strs ys),s):=Vars_tot _ p (Nat.lt_succ_self _) hp s
end Go.Am
namespace Go.Am
open Go
theorem Tok.av_eq (t:Tok):t.av=.agg [.i .i64 t.kind,.s t.text,.i .i64 t.n,.i .i64 (t.line:Nat),.i .i64 (t.col:Nat),.b t.made]:=(rfl)
theorem Tok.cells_eq (t:Tok):t.av.cells=[.i .i64 t.kind,.s t.text,.i .i64 t.n,.i .i64 (t.line:Nat),.i .i64 (t.col:Nat),.b t.made]:=(rfl)
theorem Tok.fold (t:Tok):AV.agg [.i .i64 t.kind,.s t.text,.i .i64 t.n,.i .i64 (t.line:Nat),.i .i64 (t.col:Nat),.b t.made]=t.av:=(rfl)
theorem Tok.low {n} (t:Tok):t.av.low n=true:=(rfl)
theorem Tok.alow {n} (t:Tok):t.av.alow n=true:=(rfl)
attribute [go_sem] Tok.cells_eq Tok.fold Tok.low Tok.alow
abbrev Frm:=Int × Int
def fav (f:Frm):AV:=.agg [.i .i64 f.1,.i .i64 f.2]
theorem fav_ele (f:Frm):Ele (.st 2) (fav f):=ele_st rfl rfl
def yob (v1 v2:AV) (b:Bool) (l c:Nat):Ob:=.cells [v1,v2,.b b,.i .i64 (l:Int),.i .i64 (c:Int)]
structure Ly (s0:St) (k:Nat) (s:St) (O:List Tok) (Fr:List Frm):Prop where
 cnt:cnt s=cnt s0
 oth:∀ r,r≠k→obj s r=obj s0 r
 hk:k<Am.cnt s0
 old:Old s0.nxt s.arr s0.arr
 nx:s0.nxt≤s.nxt
 tab:∃ v1 v2 b l c d1 d2,obj s k=some (yob v1 v2 b l c)∧Gr s.arr s.nxt (.st 6) v1 (O.map Tok.av) d1∧Gr s.arr s.nxt (.st 2) v2 (Fr.map fav) d2∧(∀ a,d1=some a→d2≠some a)∧(O=[]→v1=.nsl)∧(∀ a,d1=some a→s0.nxt≤a)∧(∀ a,d2=some a→s0.nxt≤a)
theorem Ly.back {s0 k s O Fr s' O' Fr' v} (h:Ly s0 k s O Fr) (h':Ly s0 k s' O' Fr'):Ly s0 k (back s v s') O' Fr':=by
 unfold Am.back
 split
 ·rename_i hc
  obtain⟨c1,c2,c3⟩:=hc
  obtain⟨w1,w2,b,l,c,d1,d2,t1,t2,t3,t4,t5,t6,t7⟩:=h'.tab
  obtain⟨x1,x2,b0,l0,c0,e1,e2,u1,u2,u3,u4,u5,u6,u7⟩:=h.tab
  have hlow:w1.alow s.nxt=true∧w2.alow s.nxt=true:=by
   rcases c3 k _ t1 with h3|h3
   ·rw[show s.objs[k]?=_ from u1] at h3
    injection h3 with h3
    unfold yob at h3
    injection h3 with h3
    injection h3 with h4 h3
    injection h3 with h5 h3
    rw[←h4,←h5]
    exact⟨u2.alow fun a ha=>u2.lt ha,u3.alow fun a ha=>u3.lt ha⟩
   ·replace h3:(w1.alow s.nxt&&(w2.alow s.nxt&&(true&&(true&&(true&&true)))))=true:=h3
    simp only[Bool.and_true,Bool.and_eq_true] at h3
    exact h3
  exact⟨h'.cnt,h'.oth,h'.hk,h.old,h.nx,w1,w2,b,l,c,d1,d2,t1,t2.mono fun a ha=>⟨(c1 a (t2.alow' hlow.1 ha)).symm,t2.alow' hlow.1 ha⟩,t3.mono fun a ha=>⟨(c1 a (t3.alow' hlow.2 ha)).symm,t3.alow' hlow.2 ha⟩,t4,t5,t6,t7⟩
 ·exact h'
theorem Ly.ex {s0 k s O Fr} (h:Ly s0 k s O Fr) (l:List Ob):Ly (ex s0 l) k (Am.ex s l) O Fr:=by
 have hc:=h.cnt
 obtain⟨w1,w2,b,l1,c,d1,d2,t1,t2⟩:=h.tab
 refine⟨by rw[ex_cnt,ex_cnt,hc],fun r a=>?_,by rw[ex_cnt];have:=h.hk;omega,h.old,h.nx,w1,w2,b,l1,c,d1,d2,?_,t2⟩
 ·rcases Nat.lt_or_ge r (Am.cnt s) with hr|hr
  ·rw[ex_old hr,ex_old (by omega)];exact h.oth r a
  ·obtain⟨i,rfl⟩:=Nat.exists_eq_add_of_le hr
   rw[ex_obj,hc,ex_obj]
 ·rw[ex_old (obj_lt t1)];exact t1
theorem Ly.unex {s0 k s O Fr} {l:List Ob} (h:Ly (Am.ex s0 l) k s O Fr) (hk:k<Am.cnt s0):∃ s',s=Am.ex s' l∧Ly s0 k s' O Fr:=by
 have hc:=h.cnt
 rw[ex_cnt] at hc
 obtain⟨w1,w2,b,l1,c,d1,d2,t1,t2⟩:=h.tab
 have hl:s.objs.length=Am.cnt s0+l.length:=hc
 have hd:s.objs.drop (Am.cnt s0)=l:=by
  apply List.ext_getElem?
  intro i
  rw[List.getElem?_drop]
  have:=h.oth (Am.cnt s0+i) (by omega)
  rw[ex_obj] at this
  exact this
 have hcut:∀ r,r<Am.cnt s0→(s.objs.take (Am.cnt s0))[r]?=s.objs[r]?:=fun r hr=>by rw[List.getElem?_take,if_pos hr]
 have hcn:(s.objs.take (Am.cnt s0)).length=Am.cnt s0:=by rw[List.length_take];omega
 refine⟨⟨s.objs.take (Am.cnt s0),s.arr,s.nxt⟩,?_,hcn,fun r a=>?_,hk,h.old,h.nx,w1,w2,b,l1,c,d1,d2,(hcut _ hk).trans t1,t2⟩
 ·show s=St.mk (s.objs.take (Am.cnt s0)++l) s.arr s.nxt
  rw[←hd,List.take_append_drop]
 ·rcases Nat.lt_or_ge r (Am.cnt s0) with hr|hr
  ·have:=h.oth r a
   rw[ex_old hr] at this
   exact (hcut r hr).trans this
  ·show (s.objs.take (Am.cnt s0))[r]?=s0.objs[r]?
   rw[List.getElem?_eq_none (by omega),List.getElem?_eq_none hr]
theorem Ly.kl {s0 k s O Fr} (h:Ly s0 k s O Fr):k<Am.cnt s:=by rw[h.cnt];exact h.hk
def wt (t:Tok):Nat:=if t.kind=1∨t.kind=3 then 1 else 0
def wts (l:List Tok):Nat:=(l.map wt).sum
theorem wts_app {a b}:wts (a++b)=wts a+wts b:=by unfold wts;rw[List.map_append,List.sum_append]
theorem wts_one {O:List Tok} {t:Tok} (h:wt t=0):wts (O++[t])=wts O:=by rw[wts_app];show wts O+(wt t+0)=_;omega
abbrev LT (s0:St) (k:Nat) (O:List Tok) (Fr:List Frm) (m:Nat) (x:Option (AV × St)):Prop:=W x fun q=>q.1=.tup []∧∃ O' Fr',Ly s0 k q.2 O' Fr'∧O'.length+Fr'.length≤O.length+Fr.length+m∧wts O'≤wts O
theorem made_tok {x:List UInt8} {l c:Nat}:AV.agg [.i .i64 5,.s x,.i .i64 0,.i .i64 (l:Nat),.i .i64 (c:Nat),.b true]=(⟨5,x,0,l,c,true⟩:Tok).av:=(rfl)
theorem map_push {α:Type} {f:α→AV} {l:List α} {x:α}:l.map f++[f x]=(l++[x]).map f:=by simp
theorem Ly.push1 {s0 k s O Fr} (h:Ly s0 k s O Fr) {v1 v2 b l c} (ho:obj s k=some (yob v1 v2 b l c)) (t:Tok) (hm:O.length+1≤900000):∃ v' A' N',(∀ l,agrow (newAr (Am.ex s l) t.av.cells) (.st 6) 1 t.av.cells v1=some (v',wa (Am.ex s l) A' N'))∧v'.cells=[v']∧(∀ n,v'.low n=true)∧Ly s0 k (wa (setOb s k (yob v' v2 b l c)) A' N') (O++[t]) Fr:=by
 obtain⟨w1,w2,b0,l1,c0,d1,d2,t1,t2,t3,t4,t5,t6,t7⟩:=h.tab
 rw[ho] at t1
 unfold yob at t1
 injection t1 with t1
 injection t1 with t1
 injection t1 with q1 t1
 injection t1 with q2 t1
 subst q1 q2
 obtain⟨v',A',N',d',k1,k2,k3,k4,k5,k6⟩:=t2.push' t.av.cells rfl (tok_ele t) (by simp;unfold most;omega)
 have hk:=obj_lt ho
 refine⟨v',A',N',fun l=>k1 (Am.ex s l),k2.one,k2.low,by rw[wa_cnt,cnt_set];exact h.cnt,fun r hr=>by rw[wa_obj,obj_set' (fun h=>hr h.symm)];exact h.oth r hr,h.hk,fun a ha=>(k4 a (Nat.lt_of_lt_of_le ha h.nx) (fun hd=>by have:=t6 a hd;omega)).trans (h.old a ha),Nat.le_trans h.nx k3,v',v2,b,l,c,d',d2,by rw[wa_obj,obj_set hk],map_push▸k2,t3.mono fun a ha=>⟨k4 a (t3.lt ha) (fun hd=>t4 a hd ha),Nat.lt_of_lt_of_le (t3.lt ha) k3⟩,fun a ha hd=>?_,fun hn=>by simp at hn,fun a ha=>Nat.le_trans h.nx (k5 a ha),t7⟩
 have:=k5 a ha;have:=t3.lt hd;omega
theorem Ly.push2 {s0 k s O Fr} (h:Ly s0 k s O Fr) {v1 v2 b l c} (ho:obj s k=some (yob v1 v2 b l c)) (t:Frm) (hm:Fr.length+1≤900000):∃ v' A' N',(∀ l,agrow (newAr (Am.ex s l) [.i .i64 t.1,.i .i64 t.2]) (.st 2) 1 [.i .i64 t.1,.i .i64 t.2] v2=some (v',wa (Am.ex s l) A' N'))∧v'.cells=[v']∧(∀ n,v'.low n=true)∧Ly s0 k (wa (setOb s k (yob v1 v' b l c)) A' N') O (Fr++[t]):=by
 obtain⟨w1,w2,b0,l1,c0,d1,d2,t1,t2,t3,t4,t5,t6,t7⟩:=h.tab
 rw[ho] at t1
 unfold yob at t1
 injection t1 with t1
 injection t1 with t1
 injection t1 with q1 t1
 injection t1 with q2 t1
 subst q1 q2
 obtain⟨v',A',N',d',k1,k2,k3,k4,k5,k6⟩:=t3.push' (y:=fav t) [.i .i64 t.1,.i .i64 t.2] rfl (fav_ele t) (by simp;unfold most;omega)
 have hk:=obj_lt ho
 refine⟨v',A',N',fun l=>k1 (Am.ex s l),k2.one,k2.low,by rw[wa_cnt,cnt_set];exact h.cnt,fun r hr=>by rw[wa_obj,obj_set' (fun h=>hr h.symm)];exact h.oth r hr,h.hk,fun a ha=>(k4 a (Nat.lt_of_lt_of_le ha h.nx) (fun hd=>by have:=t7 a hd;omega)).trans (h.old a ha),Nat.le_trans h.nx k3,v1,v',b,l,c,d1,d',by rw[wa_obj,obj_set hk],t2.mono fun a ha=>⟨k4 a (t2.lt ha) (fun hd=>t4 a ha hd),Nat.lt_of_lt_of_le (t2.lt ha) k3⟩,map_push▸k2,fun a ha hd=>?_,t5,t6,fun a ha=>Nat.le_trans h.nx (k5 a ha)⟩
 have:=k5 a hd;have:=t2.lt ha;omega
theorem Ly.set {s0 k s O Fr} (h:Ly s0 k s O Fr) {v1 v2 b l c} (ho:obj s k=some (yob v1 v2 b l c)) (b':Bool) (l' c':Nat):Ly s0 k (setOb s k (yob v1 v2 b' l' c')) O Fr:=by
 obtain⟨w1,w2,b0,l1,c0,d1,d2,t1,t2⟩:=h.tab
 rw[ho] at t1
 unfold yob at t1
 injection t1 with t1
 injection t1 with t1
 injection t1 with q1 t1
 injection t1 with q2 t1
 subst q1 q2
 exact⟨by rw[cnt_set];exact h.cnt,fun r hr=>by rw[obj_set' (fun h=>hr h.symm)];exact h.oth r hr,h.hk,h.old,h.nx,v1,v2,b',l',c',d1,d2,obj_set (obj_lt ho),t2⟩
theorem make_tot {s0 k s O Fr} (x:List UInt8) (h:Ly s0 k s O Fr) (hm:O.length+1≤900000):W (C F0 X0 58 [.ref k 0,.s x] s) fun q=>q.1=.tup []∧∃ t,wt t=0∧Ly s0 k q.2 (O++[t]) Fr:=by
 have hF:=h
 have hk:=h.kl
 obtain⟨v1,v2,b,l,c,d1,d2,t1,-⟩:=h.tab
 obtain⟨v',A',N',k1,k2,k3,k4⟩:=h.push1 t1 ⟨5,x,0,l,c,true⟩ hm
 have k1':=k1 []
 rw[ex_nil,Tok.cells_eq] at k1'
 unfold yob at t1
 rw[w_call (f:=58) rfl]
 simp only[go_sem,reduceCtorEq,↓reduceIte,nA,nB,nC,nD,nE,iA,iB,iC,iD,iE,iF,hk,t1,k1',k2,k3]
 exact⟨⟨5,x,0,l,c,true⟩,rfl,hF.back k4⟩
theorem lpush_tot {s0 k s O Fr} (x y:Int) (h:Ly s0 k s O Fr) (hm:Fr.length+1≤900000):W (C F0 X0 95 [.ref k 0,.i .i64 x,.i .i64 y] s) fun q=>q.1=.tup []∧Ly s0 k q.2 O (Fr++[(x,y)]):=by
 have hF:=h
 have hk:=h.kl
 obtain⟨v1,v2,b,l,c,d1,d2,t1,-⟩:=h.tab
 obtain⟨v',A',N',k1,k2,k3,k4⟩:=h.push2 t1 (x,y) hm
 have k1':=k1 []
 rw[ex_nil] at k1'
 unfold yob at t1
 rw[w_call (f:=95) rfl]
 simp only[go_sem,reduceCtorEq,↓reduceIte,nA,nB,nC,nD,nE,iA,iB,iC,iD,iE,iF,hk,t1,k1',k2,k3]
 exact hF.back k4
end Go.Am
namespace Go.Am
open Go
structure PS where
 l:List Tok
 i:Nat
 bad:Bool
 e:Int
 ln:Int
 cl:Int
 hi:i≤l.length
 hl:l.length≤12000
def PS.ob (p:PS):Ob:=.cells [lst (.st 6) (p.l.map Tok.av),.i .i64 (p.i:Int),.b p.bad,.i .i64 p.e,.i .i64 p.ln,.i .i64 p.cl]
def PS.peek (p:PS):Tok:=if p.bad then tok0 else p.l.getD p.i tok0
def PS.m (p:PS):Nat:=if p.bad then 0 else p.l.length - p.i+1
def PS.lv (p:PS):Nat:=if p.bad=false∧p.i<p.l.length then 1 else 0
def PS.is (p:PS) (x:Str):Bool:=(p.peek.kind==5||p.peek.kind==6)&&p.peek.text==x
def PS.isk (p:PS) (k:Int):Bool:=p.peek.kind==k
def PS.next (p:PS):PS:=if h:p.bad=false∧p.i<p.l.length then { p with i:=p.i+1,hi:=h.2 } else p
def PS.le (p q:PS):Prop:=q.l=p.l∧p.i≤q.i∧(p.bad=true→q.bad=true)
theorem PS.le_refl {p:PS}:p.le p:=⟨rfl,Nat.le_refl _,fun h=>h⟩
theorem PS.le_trans {p q r:PS} (h:p.le q) (k:q.le r):p.le r:=⟨k.1.trans h.1,Nat.le_trans h.2.1 k.2.1,fun hb=>k.2.2 (h.2.2 hb)⟩
theorem PS.next_le {p:PS}:p.le p.next:=by
 unfold PS.next
 split
 ·exact⟨rfl,Nat.le_succ _,fun h=>h⟩
 ·exact PS.le_refl
theorem PS.next_m {p:PS}:p.next.m+p.lv=p.m:=by
 unfold PS.next PS.lv PS.m
 split
 ·rename_i h
  show (if p.bad=true then 0 else p.l.length - (p.i+1)+1)+1=(if p.bad=true then 0 else p.l.length - p.i+1)
  rw[h.1,if_neg Bool.false_ne_true,if_neg Bool.false_ne_true]
  have:=h.2
  omega
 ·rfl
theorem PS.lv_of {p:PS} (h:p.peek.kind≠0):p.lv=1:=by
 unfold PS.lv
 rw[if_pos]
 unfold PS.peek at h
 cases hb:p.bad with
 | true=>rw[hb] at h;exact absurd rfl h
 | false =>
  rw[hb] at h
  refine⟨rfl,?_⟩
  rcases Nat.lt_or_ge p.i p.l.length with hi|hi
  ·exact hi
  ·rw[if_neg Bool.false_ne_true,List.getD_eq_getElem?_getD,List.getElem?_eq_none hi] at h;exact absurd rfl h
theorem PS.is_lv {p:PS} {x} (h:p.is x=true):p.lv=1:=PS.lv_of fun h0=>by unfold PS.is at h;rw[h0] at h;simp at h
theorem PS.isk_lv {p:PS} {k} (h:p.isk k=true) (hk:k≠0):p.lv=1:=PS.lv_of fun h0=>by unfold PS.isk at h;rw[h0] at h;simp at h;exact hk h.symm
theorem PS.peek_lv {p:PS} {k} (h:(p.peek.kind==k)=true) (hk:k≠0):p.lv=1:=PS.isk_lv h hk
theorem PS.lv_m {p:PS} (h:p.lv=1):2≤p.m∧p.bad=false:=by
 unfold PS.lv at h
 split at h
 ·rename_i h1;exact⟨by unfold PS.m;rw[h1.1,if_neg Bool.false_ne_true];have:=h1.2;omega,h1.1⟩
 ·cases h
theorem PS.m_bad {p:PS} (h:p.bad=true):p.m=0:=by unfold PS.m;rw[h];rfl
theorem PS.le_m {p q:PS} (h:p.le q):q.m≤p.m:=by
 unfold PS.m
 cases hb:p.bad with
 | true=>rw[h.2.2 hb];exact Nat.le_refl _
 | false =>
  have h1:=h.2.1
  rw[h.1]
  cases q.bad<;>simp<;>omega
theorem PS.m_ok {p:PS} (h:p.bad=false):1≤p.m:=by unfold PS.m;rw[h];simp
theorem min_i {k a b}:amin (.i k a) (.i k b)=some (.i k (if b<a then b else a)):=(rfl)
attribute [go_sem] min_i
theorem toks_iad {l:List Tok} {i:Nat} (h:i<l.length) (k:IntKind):aiad (.st 6) (lst (.st 6) (l.map Tok.av)) (.i k (i:Int))=some (.ep l[i].av.cells 0):=lst_iad rfl (by simp[h])
theorem peek_eq {k:Nat} (p:PS) (s:St) (ho:obj s k=some p.ob):C F0 X0 59 [.ref k 0] s=some (p.peek.av,s):=by
 have hk:=obj_lt ho
 have hi:=p.hi
 refine W.eq ?_
 unfold PS.ob at ho
 rw[w_call (f:=59) rfl]
 simp only[go_sem,reduceCtorEq,↓reduceIte,nA,nB,nC,nD,nE,iA,iB,iC,iD,iE,iF,hk,ho]
 have hpk:p.peek=if p.bad then tok0 else p.l.getD p.i tok0:=rfl
 have h0:tok0.av=.agg [.i .i64 0,.s [],.i .i64 0,.i .i64 0,.i .i64 0,.b false]:=rfl
 refine W.ifc (fun d=>?_) (fun d=>?_)
 ·rw[hpk,d,if_pos rfl]
  simp only[go_sem,reduceCtorEq,↓reduceIte,nA,nB,nC,nD,nE,iA,iB,iC,iD,iE,iF,d]
  rfl
 ·rw[hpk,d,if_neg Bool.false_ne_true]
  simp only[go_sem,reduceCtorEq,↓reduceIte,nA,nB,nC,nD,nE,iA,iB,iC,iD,iE,iF,d,hk,ho]
  refine W.ifc (fun d2=>?_) (fun d2=>?_)
  ·have hge:p.l.length≤p.i:=by simp at d2;omega
   rw[List.getD_eq_getElem?_getD,List.getElem?_eq_none hge]
   simp only[go_sem,reduceCtorEq,↓reduceIte,nA,nB,nC,nD,nE,iA,iB,iC,iD,iE,iF,d2]
   rfl
  ·have hlt:p.i<p.l.length:=by simp at d2;omega
   rw[List.getD_eq_getElem?_getD,List.getElem?_eq_getElem hlt]
   have:=toks_iad hlt
   simp only[go_sem,reduceCtorEq,↓reduceIte,nA,nB,nC,nD,nE,iA,iB,iC,iD,iE,iF,d2,hk,ho,this]
   rfl
theorem is_eq' {k:Nat} (p:PS) (x:Str) (s:St) (ho:obj s k=some p.ob):C F0 X0 29 [.ref k 0,.s x] s=some (.b (p.is x),s):=by
 have hp:=peek_eq p s ho
 refine W.eq ?_
 rw[w_call (f:=29) rfl]
 unfold PS.is
 simp only[go_sem,reduceCtorEq,↓reduceIte,nA,nB,nC,nD,nE,iA,iB,iC,iD,iE,iF,hp]
 refine W.ifc (fun d=>?_) (fun d=>?_)
 ·simp only[go_sem,reduceCtorEq,↓reduceIte,nA,nB,nC,nD,nE,iA,iB,iC,iD,iE,iF,d,Bool.true_or]
 ·simp only[go_sem,reduceCtorEq,↓reduceIte,nA,nB,nC,nD,nE,iA,iB,iC,iD,iE,iF,d,Bool.false_or]
  refine W.ifc (fun d2=>?_) (fun d2=>?_)
  ·simp only[go_sem,reduceCtorEq,↓reduceIte,nA,nB,nC,nD,nE,iA,iB,iC,iD,iE,iF,d2]
  ·simp only[go_sem,reduceCtorEq,↓reduceIte,nA,nB,nC,nD,nE,iA,iB,iC,iD,iE,iF,d2,Bool.false_and]
theorem isk_eq {k:Nat} (p:PS) (x:Int) (s:St) (ho:obj s k=some p.ob):C F0 X0 61 [.ref k 0,.i .i64 x] s=some (.b (p.isk x),s):=by
 have hp:=peek_eq p s ho
 refine W.eq ?_
 rw[w_call (f:=61) rfl]
 unfold PS.isk
 have hf:∀ k el (t:Tok),afld k el t.av=El.get el [.i .i64 t.kind,.s t.text,.i .i64 t.n,.i .i64 (t.line:Nat),.i .i64 (t.col:Nat),.b t.made] k:=fun _ _ _=>rfl
 simp only[go_sem,reduceCtorEq,↓reduceIte,nA,nB,nC,nD,nE,iA,iB,iC,iD,iE,iF,hp,hf]
theorem next_eq' {k:Nat} (p:PS) (s:St) (ho:obj s k=some p.ob):C F0 X0 30 [.ref k 0] s=some (p.peek.av,setOb s k p.next.ob):=by
 have hp:=fun l=>peek_eq p (ex s l) (by rw[ex_old (obj_lt ho)];exact ho)
 have hk:=obj_lt ho
 have hi:=p.hi
 have hl:=p.hl
 have hsid:=set_id ho
 have ho2:=ho
 unfold PS.ob at ho
 refine W.eq ?_
 rw[w_call (f:=30) rfl]
 simp only[go_sem,reduceCtorEq,↓reduceIte,nA,nB,nC,nD,nE,iA,iB,iC,iD,iE,iF,hp,hk,ho]
 have hn:p.bad=true∨p.l.length≤p.i→setOb s k p.next.ob=s:=fun h=>by
  have:p.next=p:=by
   unfold PS.next
   rw[dif_neg (fun h2=>by rcases h with h|h;rw[h] at h2;exact absurd h2.1 (by decide);omega)]
  rw[this,hsid]
 refine W.ifc (fun d=>?_) (fun d=>?_)
 ·rw[hn (.inl d)]
  simp only[go_sem,reduceCtorEq,↓reduceIte,nA,nB,nC,nD,nE,iA,iB,iC,iD,iE,iF,d]
 ·simp only[go_sem,reduceCtorEq,↓reduceIte,nA,nB,nC,nD,nE,iA,iB,iC,iD,iE,iF,d,hk,ho]
  refine W.ifc (fun d2=>?_) (fun d2=>?_)
  ·have hlt:p.i<p.l.length:=by simp at d2;omega
   have hnx:p.next.ob=.cells [lst (.st 6) (p.l.map Tok.av),.i .i64 ((p.i+1:Nat):Int),.b p.bad,.i .i64 p.e,.i .i64 p.ln,.i .i64 p.cl]:=by
    unfold PS.next;rw[dif_pos ⟨d,hlt⟩];rfl
   have h5:=@wrap_one p.i (by omega)
   rw[hnx,d]
   simp only[go_sem,reduceCtorEq,↓reduceIte,nA,nB,nC,nD,nE,iA,iB,iC,iD,iE,iF,d2,hk,ho,h5,d]
  ·have hge:p.l.length≤p.i:=by simp at d2;omega
   rw[hn (.inr hge)]
   simp only[go_sem,reduceCtorEq,↓reduceIte,nA,nB,nC,nD,nE,iA,iB,iC,iD,iE,iF,d2]
def PS.fail (p:PS) (e l c:Int):PS:={ p with bad:=true,e:=e,ln:=l,cl:=c }
theorem fails_w {k:Nat} {p:PS} {s:St} (x:Int) (ho:obj s k=some p.ob):W (C F0 X0 31 [.ref k 0,.i .i64 x] s) fun q=>∃ p':PS,q=(.tup [],setOb s k p'.ob)∧p.le p'∧p'.m=0∧p'.bad=true∧(p.bad=false→p'.e=x):=by
 have hk:=obj_lt ho
 have hi:=p.hi
 have hl:=p.hl
 have hsid:=set_id ho
 unfold PS.ob at ho
 rw[w_call (f:=31) rfl]
 simp only[go_sem,reduceCtorEq,↓reduceIte,nA,nB,nC,nD,nE,iA,iB,iC,iD,iE,iF,hk,ho]
 refine W.ifc (fun d=>?_) (fun d=>?_)
 ·simp only[go_sem,reduceCtorEq,↓reduceIte,nA,nB,nC,nD,nE,iA,iB,iC,iD,iE,iF,d]
  exact⟨p,by rw[hsid],PS.le_refl,PS.m_bad d,d⟩
 ·simp only[go_sem,reduceCtorEq,↓reduceIte,nA,nB,nC,nD,nE,iA,iB,iC,iD,iE,iF,d,hk,ho]
  refine W.ifc (fun d2=>?_) (fun d2=>?_)
  ·have hpos:0<p.l.length:=by simp at d2;omega
   have hw:IntKind.i64.wrap ((p.l.length:Int) - 1)=((p.l.length - 1:Nat):Int):=by
    rw[←wrap_nat (n:=p.l.length - 1) (by omega)];congr 1;omega
   obtain⟨j,hj,hjl⟩:∃ j:Nat,(if ((p.l.length - 1:Nat):Int)<(p.i:Int) then ((p.l.length - 1:Nat):Int) else (p.i:Int))=(j:Int)∧j<p.l.length:=by
    split
    ·exact⟨p.l.length - 1,rfl,by omega⟩
    ·exact⟨p.i,rfl,by omega⟩
   have:=toks_iad hjl
   simp only[go_sem,reduceCtorEq,↓reduceIte,nA,nB,nC,nD,nE,iA,iB,iC,iD,iE,iF,d2,hk,ho,hw,hj,this]
   exact⟨p.fail x p.l[j].line p.l[j].col,rfl,⟨rfl,Nat.le_refl _,fun _=>rfl⟩,PS.m_bad rfl,rfl,by first|exact rfl|exact fun _=>rfl⟩
  ·simp only[go_sem,reduceCtorEq,↓reduceIte,nA,nB,nC,nD,nE,iA,iB,iC,iD,iE,iF,d2,hk,ho]
   exact⟨p.fail x 1 1,rfl,⟨rfl,Nat.le_refl _,fun _=>rfl⟩,PS.m_bad rfl,rfl,by first|exact rfl|exact fun _=>rfl⟩
end Go.Am
