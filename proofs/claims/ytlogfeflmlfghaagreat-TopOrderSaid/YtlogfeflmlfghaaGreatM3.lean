/- Part 3 of a machine for Go's pure part and of walks on it. -/
import Derived.Test.YtlogfeflmlfghaaGreatM2
open Nat renaming reduceEqDiff → nA,reduceAdd → nB,reduceLeDiff → nC,reduceLT → nD,reduceMul → nE
open Int renaming reduceBEq → iA,reduceBNe → iB,reduceLT → iC,reduceLE → iD,reduceGT → iE,reduceGE → iF
set_option maxRecDepth 100000
set_option linter.unusedSimpArgs false
set_option linter.unusedVariables false
set_option linter.unusedSectionVars false
namespace Go.Am
open Go
section
variable {s:St} {k:Nat} {o o':Ob} {l:List Ob} {A:Nat→Option (List AV)} {N:Nat}
theorem at_set (h:k<cnt s):obj (setOb s k o) k=some o:=obj_set h
theorem at_ex (h:k<cnt s):obj (ex (setOb s k o) l) k=some o:=by rw[ex_old (by rw[cnt_set];exact h)];exact obj_set h
theorem at_exo (h:k<cnt s) (ho:obj s k=some o):obj (ex s l) k=some o:=by rw[ex_old h];exact ho
theorem at_wa (h:k<cnt s):obj (wa (setOb s k o) A N) k=some o:=obj_set h
theorem at_wx (h:k<cnt s):obj (wa (ex (setOb s k o) l) A N) k=some o:=at_ex h
theorem at_wo (h:k<cnt s) (ho:obj s k=some o):obj (wa (ex s l) A N) k=some o:=at_exo h ho
variable {p:PS}
theorem is_w (x:Str) (ho:obj s k=some p.ob):W (C F0 X0 29 [.ref k 0,.s x] s) fun q=>q=(.b (p.is x),s):=W.of (is_eq' p x s ho) rfl
theorem isk_w (x:Int) (ho:obj s k=some p.ob):W (C F0 X0 61 [.ref k 0,.i .i64 x] s) fun q=>q=(.b (p.isk x),s):=W.of (isk_eq p x s ho) rfl
theorem peek_w (ho:obj s k=some p.ob):W (C F0 X0 59 [.ref k 0] s) fun q=>q=(p.peek.av,s):=W.of (peek_eq p s ho) rfl
theorem next_w (ho:obj s k=some p.ob):W (C F0 X0 30 [.ref k 0] s) fun q=>∃ p':PS,q=(p.peek.av,setOb s k p'.ob)∧p.le p'∧p'.m+p.lv=p.m∧(p'.bad=p.bad) :=
 W.of (next_eq' p s ho) ⟨p.next,rfl,PS.next_le,PS.next_m,by unfold PS.next;split<;>rfl⟩
end
def PS.w (p:PS):Nat:=wts (p.l.drop p.i)
theorem PS.next_w' {p:PS} (h:p.lv=1):p.next.w+wt p.peek=p.w:=by
 unfold PS.lv at h
 split at h
 ·rename_i h1
  unfold PS.w PS.next PS.peek
  rw[dif_pos h1,h1.1,if_neg Bool.false_ne_true,List.getD_eq_getElem?_getD,List.getElem?_eq_getElem h1.2]
  show wts (p.l.drop (p.i+1))+wt p.l[p.i]=wts (p.l.drop p.i)
  have e:p.l.drop p.i=[p.l[p.i]]++p.l.drop (p.i+1):=List.drop_eq_getElem_cons h1.2
  rw[e,wts_app]
  show _=wt _+0+_
  omega
 ·cases h
theorem wts_drop:∀ (l:List Tok) (i:Nat),wts (l.drop i)≤wts l
 | [],i=>by simp
 | x::xs,0=>Nat.le_refl _
 | x::xs,i+1=>by
  have:=wts_drop xs i
  show wts (xs.drop i)≤wt x+wts xs
  omega
theorem PS.le_w {p q:PS} (h:p.le q):q.w≤p.w:=by
 unfold PS.w
 rw[h.1]
 obtain⟨d,hd⟩:=Nat.exists_eq_add_of_le h.2.1
 rw[hd,←List.drop_drop]
 exact wts_drop _ _
section
variable {s:St} {k:Nat} {p:PS}
theorem text_w (x:Str) (ho:obj s k=some p.ob):W (C F0 X0 15 [.ref k 0,.s x] s) fun q=>∃ (p':PS) (t:Tok),q=(t.av,setOb s k p'.ob)∧p.le p'∧p'.m≤p.m - 1∧(p'.bad=false→p.bad=false):=by
 have hk:=obj_lt ho
 rw[w_call (f:=15) rfl]
 simp only[go_sem,reduceCtorEq,↓reduceIte,nA,nB,nC,nD,nE,iA,iB,iC,iD,iE,iF]
 refine W.step (is_w x (at_exo hk ho)) ?_
 rintro _ rfl
 simp only[go_sem,reduceCtorEq,↓reduceIte,nA,nB,nC,nD,nE,iA,iB,iC,iD,iE,iF]
 refine W.ifc (fun d=>?_) (fun d=>?_)
 ·have dl:=PS.is_lv d
  simp only[go_sem,reduceCtorEq,↓reduceIte,nA,nB,nC,nD,nE,iA,iB,iC,iD,iE,iF,d]
  refine W.step (next_w (at_exo hk ho)) ?_
  rintro _ ⟨p2,rfl,a1,a2,a3⟩
  simp only[go_sem,reduceCtorEq,↓reduceIte,nA,nB,nC,nD,nE,iA,iB,iC,iD,iE,iF,hk]
  exact⟨p2,_,rfl,a1,by omega,fun h=>a3▸h⟩
 ·simp only[go_sem,reduceCtorEq,↓reduceIte,nA,nB,nC,nD,nE,iA,iB,iC,iD,iE,iF,d]
  refine W.step (fails_w 60 (at_exo hk ho)) ?_
  rintro _ ⟨p2,rfl,a1,a2,a3,a4⟩
  simp only[go_sem,reduceCtorEq,↓reduceIte,nA,nB,nC,nD,nE,iA,iB,iC,iD,iE,iF,hk]
  refine W.step (next_w (at_ex hk)) ?_
  rintro _ ⟨p3,rfl,b1,b2,b3⟩
  simp only[go_sem,reduceCtorEq,↓reduceIte,nA,nB,nC,nD,nE,iA,iB,iC,iD,iE,iF,hk]
  exact⟨p3,_,rfl,PS.le_trans a1 b1,by omega,fun h=>by rw[b3,a3] at h;cases h⟩
theorem want_w (x:Int) (hx:x≠0) (ho:obj s k=some p.ob):W (C F0 X0 60 [.ref k 0,.i .i64 x] s) fun q=>∃ (p':PS) (t:Tok),q=(t.av,setOb s k p'.ob)∧p.le p'∧p'.m≤p.m - 1∧(p'.bad=false→p.bad=false∧t.kind=x∧p'.w+wt t=p.w):=by
 have hk:=obj_lt ho
 rw[w_call (f:=60) rfl]
 simp only[go_sem,reduceCtorEq,↓reduceIte,nA,nB,nC,nD,nE,iA,iB,iC,iD,iE,iF]
 refine W.step (isk_w x (at_exo hk ho)) ?_
 rintro _ rfl
 simp only[go_sem,reduceCtorEq,↓reduceIte,nA,nB,nC,nD,nE,iA,iB,iC,iD,iE,iF]
 refine W.ifc (fun d=>?_) (fun d=>?_)
 ·have dl:=PS.isk_lv d hx
  have hn:=fun l=>next_eq' p (ex s l) (at_exo hk ho)
  simp only[go_sem,reduceCtorEq,↓reduceIte,nA,nB,nC,nD,nE,iA,iB,iC,iD,iE,iF,d,hn,hk]
  exact⟨p.next,p.peek,rfl,PS.next_le,by have:=@PS.next_m p;omega,fun h=>⟨(PS.lv_m dl).2,by unfold PS.isk at d;exact eq_of_beq d,PS.next_w' dl⟩⟩
 ·simp only[go_sem,reduceCtorEq,↓reduceIte,nA,nB,nC,nD,nE,iA,iB,iC,iD,iE,iF,d]
  refine W.step (fails_w 60 (at_exo hk ho)) ?_
  rintro _ ⟨p2,rfl,a1,a2,a3,a4⟩
  simp only[go_sem,reduceCtorEq,↓reduceIte,nA,nB,nC,nD,nE,iA,iB,iC,iD,iE,iF,hk]
  refine W.step (next_w (at_ex hk)) ?_
  rintro _ ⟨p3,rfl,b1,b2,b3⟩
  simp only[go_sem,reduceCtorEq,↓reduceIte,nA,nB,nC,nD,nE,iA,iB,iC,iD,iE,iF,hk]
  exact⟨p3,_,rfl,PS.le_trans a1 b1,by omega,fun h=>by rw[b3,a3] at h;cases h⟩
end
end Go.Am
namespace Go.Am
open Go
theorem PS.lv_le {p:PS}:p.lv≤p.m:=by have:=@PS.next_m p;omega
theorem tok_fld {k el} {t:Tok}:afld k el t.av=El.get el [.i .i64 t.kind,.s t.text,.i .i64 t.n,.i .i64 (t.line:Nat),.i .i64 (t.col:Nat),.b t.made] k:=(rfl)
attribute [go_sem] tok_fld
section
variable {s:St} {k:Nat} {p:PS}
theorem pattern_w (ho:obj s k=some p.ob):W (C F0 X0 63 [.ref k 0] s) fun q=>∃ b,q=(.b b,s)∧(b=true→p.lv=1):=by
 have hk:=obj_lt ho
 rw[w_call (f:=63) rfl]
 simp only[go_sem,reduceCtorEq,↓reduceIte,nA,nB,nC,nD,nE,iA,iB,iC,iD,iE,iF,hk]
 repeat' (first
   | (refine W.ifc (fun d=>?_) (fun d=>?_)<;>(try have dl:=PS.is_lv d)<;>(try have dl:=PS.isk_lv d (by decide))<;>(try have dl:=a1 d)<;>(try have dl:=PS.peek_lv d (by decide))<;>(try have dm:=PS.m_ok d)<;>(try have dm:=PS.m_bad d)<;>simp only[go_sem,reduceCtorEq,↓reduceIte,nA,nB,nC,nD,nE,iA,iB,iC,iD,iE,iF,d,hk,Bool.true_or,Bool.false_or,Bool.false_and,Bool.true_and])
   | (refine W.step (is_w _ (by simp only[go_sem,hk,ho]<;>rfl)) ?_;rintro _ rfl;simp only[go_sem,reduceCtorEq,↓reduceIte,nA,nB,nC,nD,nE,iA,iB,iC,iD,iE,iF,hk])
   | (refine W.step (isk_w _ (by simp only[go_sem,hk,ho]<;>rfl)) ?_;rintro _ rfl;simp only[go_sem,reduceCtorEq,↓reduceIte,nA,nB,nC,nD,nE,iA,iB,iC,iD,iE,iF,hk])
   | (refine W.step (peek_w (by simp only[go_sem,hk,ho]<;>rfl)) ?_;rintro _ rfl;simp only[go_sem,reduceCtorEq,↓reduceIte,nA,nB,nC,nD,nE,iA,iB,iC,iD,iE,iF,hk])
   | (refine W.step (next_w (by simp only[go_sem,hk,ho]<;>rfl)) ?_;rintro _ ⟨p2,rfl,a1,a2,a3⟩;simp only[go_sem,reduceCtorEq,↓reduceIte,nA,nB,nC,nD,nE,iA,iB,iC,iD,iE,iF,hk])
   | (refine W.step (minus_w (by simp only[go_sem,hk,ho]<;>rfl)) ?_;rintro _ ⟨p2,rfl,a1,a2,a3⟩;simp only[go_sem,reduceCtorEq,↓reduceIte,nA,nB,nC,nD,nE,iA,iB,iC,iD,iE,iF,hk])
   | (refine W.step (plain_w (by simp only[go_sem,hk,ho]<;>rfl)) ?_;rintro _ ⟨p2,n2,l2,c2,rfl,a1,a2⟩;simp only[go_sem,reduceCtorEq,↓reduceIte,nA,nB,nC,nD,nE,iA,iB,iC,iD,iE,iF,hk])
   | (refine W.step (number_w (by simp only[go_sem,hk,ho]<;>rfl)) ?_;rintro _ ⟨p2,n2,l2,c2,rfl,a1,a2⟩;simp only[go_sem,reduceCtorEq,↓reduceIte,nA,nB,nC,nD,nE,iA,iB,iC,iD,iE,iF,hk])
   | (refine W.step (ahead_w _ _ (by simp only[go_sem,hk,ho]<;>rfl)) ?_;rintro _ ⟨b2,rfl,a1⟩;simp only[go_sem,reduceCtorEq,↓reduceIte,nA,nB,nC,nD,nE,iA,iB,iC,iD,iE,iF,hk])
   | (refine W.step (pattern_w (by simp only[go_sem,hk,ho]<;>rfl)) ?_;rintro _ ⟨b2,rfl,a1⟩;simp only[go_sem,reduceCtorEq,↓reduceIte,nA,nB,nC,nD,nE,iA,iB,iC,iD,iE,iF,hk])
   | (refine W.step (argument_w (by simp only[go_sem,hk,ho]<;>rfl)) ?_;rintro _ ⟨b2,rfl,a1⟩;simp only[go_sem,reduceCtorEq,↓reduceIte,nA,nB,nC,nD,nE,iA,iB,iC,iD,iE,iF,hk])
   | (refine W.step (atomic_w (by simp only[go_sem,hk,ho]<;>rfl)) ?_;rintro _ ⟨b2,rfl,a1⟩;simp only[go_sem,reduceCtorEq,↓reduceIte,nA,nB,nC,nD,nE,iA,iB,iC,iD,iE,iF,hk])
   | (refine W.step (operator_w (by simp only[go_sem,hk,ho]<;>rfl)) ?_;rintro _ ⟨b2,rfl,a1⟩;simp only[go_sem,reduceCtorEq,↓reduceIte,nA,nB,nC,nD,nE,iA,iB,iC,iD,iE,iF,hk])
   | (refine W.step (text_w _ (by simp only[go_sem,hk,ho]<;>rfl)) ?_;rintro _ ⟨p2,x2,rfl,a1,a2,a3⟩;simp only[go_sem,reduceCtorEq,↓reduceIte,nA,nB,nC,nD,nE,iA,iB,iC,iD,iE,iF,hk])
   | (refine W.step (want_w _ (by decide) (by simp only[go_sem,hk,ho]<;>rfl)) ?_;rintro _ ⟨p2,x2,rfl,a1,a2,a3⟩;simp only[go_sem,reduceCtorEq,↓reduceIte,nA,nB,nC,nD,nE,iA,iB,iC,iD,iE,iF,hk])
   | (refine W.step (fails_w _ (by simp only[go_sem,hk,ho]<;>rfl)) ?_;rintro _ ⟨p2,rfl,a1,a2,a3,a4⟩;simp only[go_sem,reduceCtorEq,↓reduceIte,nA,nB,nC,nD,nE,iA,iB,iC,iD,iE,iF,hk]))
 all_goals first
  | exact⟨_,rfl,fun _=>by assumption⟩
  | exact⟨_,rfl,fun h=>PS.is_lv h⟩
theorem argument_w (ho:obj s k=some p.ob):W (C F0 X0 141 [.ref k 0] s) fun q=>∃ b,q=(.b b,s)∧(b=true→p.lv=1):=by
 have hk:=obj_lt ho
 rw[w_call (f:=141) rfl]
 simp only[go_sem,reduceCtorEq,↓reduceIte,nA,nB,nC,nD,nE,iA,iB,iC,iD,iE,iF,hk]
 repeat' (first
   | (refine W.ifc (fun d=>?_) (fun d=>?_)<;>(try have dl:=PS.is_lv d)<;>(try have dl:=PS.isk_lv d (by decide))<;>(try have dl:=a1 d)<;>(try have dl:=PS.peek_lv d (by decide))<;>(try have dm:=PS.m_ok d)<;>(try have dm:=PS.m_bad d)<;>simp only[go_sem,reduceCtorEq,↓reduceIte,nA,nB,nC,nD,nE,iA,iB,iC,iD,iE,iF,d,hk,Bool.true_or,Bool.false_or,Bool.false_and,Bool.true_and])
   | (refine W.step (is_w _ (by simp only[go_sem,hk,ho]<;>rfl)) ?_;rintro _ rfl;simp only[go_sem,reduceCtorEq,↓reduceIte,nA,nB,nC,nD,nE,iA,iB,iC,iD,iE,iF,hk])
   | (refine W.step (isk_w _ (by simp only[go_sem,hk,ho]<;>rfl)) ?_;rintro _ rfl;simp only[go_sem,reduceCtorEq,↓reduceIte,nA,nB,nC,nD,nE,iA,iB,iC,iD,iE,iF,hk])
   | (refine W.step (peek_w (by simp only[go_sem,hk,ho]<;>rfl)) ?_;rintro _ rfl;simp only[go_sem,reduceCtorEq,↓reduceIte,nA,nB,nC,nD,nE,iA,iB,iC,iD,iE,iF,hk])
   | (refine W.step (next_w (by simp only[go_sem,hk,ho]<;>rfl)) ?_;rintro _ ⟨p2,rfl,a1,a2,a3⟩;simp only[go_sem,reduceCtorEq,↓reduceIte,nA,nB,nC,nD,nE,iA,iB,iC,iD,iE,iF,hk])
   | (refine W.step (minus_w (by simp only[go_sem,hk,ho]<;>rfl)) ?_;rintro _ ⟨p2,rfl,a1,a2,a3⟩;simp only[go_sem,reduceCtorEq,↓reduceIte,nA,nB,nC,nD,nE,iA,iB,iC,iD,iE,iF,hk])
   | (refine W.step (plain_w (by simp only[go_sem,hk,ho]<;>rfl)) ?_;rintro _ ⟨p2,n2,l2,c2,rfl,a1,a2⟩;simp only[go_sem,reduceCtorEq,↓reduceIte,nA,nB,nC,nD,nE,iA,iB,iC,iD,iE,iF,hk])
   | (refine W.step (number_w (by simp only[go_sem,hk,ho]<;>rfl)) ?_;rintro _ ⟨p2,n2,l2,c2,rfl,a1,a2⟩;simp only[go_sem,reduceCtorEq,↓reduceIte,nA,nB,nC,nD,nE,iA,iB,iC,iD,iE,iF,hk])
   | (refine W.step (ahead_w _ _ (by simp only[go_sem,hk,ho]<;>rfl)) ?_;rintro _ ⟨b2,rfl,a1⟩;simp only[go_sem,reduceCtorEq,↓reduceIte,nA,nB,nC,nD,nE,iA,iB,iC,iD,iE,iF,hk])
   | (refine W.step (pattern_w (by simp only[go_sem,hk,ho]<;>rfl)) ?_;rintro _ ⟨b2,rfl,a1⟩;simp only[go_sem,reduceCtorEq,↓reduceIte,nA,nB,nC,nD,nE,iA,iB,iC,iD,iE,iF,hk])
   | (refine W.step (argument_w (by simp only[go_sem,hk,ho]<;>rfl)) ?_;rintro _ ⟨b2,rfl,a1⟩;simp only[go_sem,reduceCtorEq,↓reduceIte,nA,nB,nC,nD,nE,iA,iB,iC,iD,iE,iF,hk])
   | (refine W.step (atomic_w (by simp only[go_sem,hk,ho]<;>rfl)) ?_;rintro _ ⟨b2,rfl,a1⟩;simp only[go_sem,reduceCtorEq,↓reduceIte,nA,nB,nC,nD,nE,iA,iB,iC,iD,iE,iF,hk])
   | (refine W.step (operator_w (by simp only[go_sem,hk,ho]<;>rfl)) ?_;rintro _ ⟨b2,rfl,a1⟩;simp only[go_sem,reduceCtorEq,↓reduceIte,nA,nB,nC,nD,nE,iA,iB,iC,iD,iE,iF,hk])
   | (refine W.step (text_w _ (by simp only[go_sem,hk,ho]<;>rfl)) ?_;rintro _ ⟨p2,x2,rfl,a1,a2,a3⟩;simp only[go_sem,reduceCtorEq,↓reduceIte,nA,nB,nC,nD,nE,iA,iB,iC,iD,iE,iF,hk])
   | (refine W.step (want_w _ (by decide) (by simp only[go_sem,hk,ho]<;>rfl)) ?_;rintro _ ⟨p2,x2,rfl,a1,a2,a3⟩;simp only[go_sem,reduceCtorEq,↓reduceIte,nA,nB,nC,nD,nE,iA,iB,iC,iD,iE,iF,hk])
   | (refine W.step (fails_w _ (by simp only[go_sem,hk,ho]<;>rfl)) ?_;rintro _ ⟨p2,rfl,a1,a2,a3,a4⟩;simp only[go_sem,reduceCtorEq,↓reduceIte,nA,nB,nC,nD,nE,iA,iB,iC,iD,iE,iF,hk]))
 all_goals first
  | exact⟨_,rfl,fun _=>by assumption⟩
  | exact⟨_,rfl,fun h=>PS.is_lv h⟩
theorem atomic_w (ho:obj s k=some p.ob):W (C F0 X0 100 [.ref k 0] s) fun q=>∃ b,q=(.b b,s)∧(b=true→p.lv=1):=by
 have hk:=obj_lt ho
 rw[w_call (f:=100) rfl]
 simp only[go_sem,reduceCtorEq,↓reduceIte,nA,nB,nC,nD,nE,iA,iB,iC,iD,iE,iF,hk]
 repeat' (first
   | (refine W.ifc (fun d=>?_) (fun d=>?_)<;>(try have dl:=PS.is_lv d)<;>(try have dl:=PS.isk_lv d (by decide))<;>(try have dl:=a1 d)<;>(try have dl:=PS.peek_lv d (by decide))<;>(try have dm:=PS.m_ok d)<;>(try have dm:=PS.m_bad d)<;>simp only[go_sem,reduceCtorEq,↓reduceIte,nA,nB,nC,nD,nE,iA,iB,iC,iD,iE,iF,d,hk,Bool.true_or,Bool.false_or,Bool.false_and,Bool.true_and])
   | (refine W.step (is_w _ (by simp only[go_sem,hk,ho]<;>rfl)) ?_;rintro _ rfl;simp only[go_sem,reduceCtorEq,↓reduceIte,nA,nB,nC,nD,nE,iA,iB,iC,iD,iE,iF,hk])
   | (refine W.step (isk_w _ (by simp only[go_sem,hk,ho]<;>rfl)) ?_;rintro _ rfl;simp only[go_sem,reduceCtorEq,↓reduceIte,nA,nB,nC,nD,nE,iA,iB,iC,iD,iE,iF,hk])
   | (refine W.step (peek_w (by simp only[go_sem,hk,ho]<;>rfl)) ?_;rintro _ rfl;simp only[go_sem,reduceCtorEq,↓reduceIte,nA,nB,nC,nD,nE,iA,iB,iC,iD,iE,iF,hk])
   | (refine W.step (next_w (by simp only[go_sem,hk,ho]<;>rfl)) ?_;rintro _ ⟨p2,rfl,a1,a2,a3⟩;simp only[go_sem,reduceCtorEq,↓reduceIte,nA,nB,nC,nD,nE,iA,iB,iC,iD,iE,iF,hk])
   | (refine W.step (minus_w (by simp only[go_sem,hk,ho]<;>rfl)) ?_;rintro _ ⟨p2,rfl,a1,a2,a3⟩;simp only[go_sem,reduceCtorEq,↓reduceIte,nA,nB,nC,nD,nE,iA,iB,iC,iD,iE,iF,hk])
   | (refine W.step (plain_w (by simp only[go_sem,hk,ho]<;>rfl)) ?_;rintro _ ⟨p2,n2,l2,c2,rfl,a1,a2⟩;simp only[go_sem,reduceCtorEq,↓reduceIte,nA,nB,nC,nD,nE,iA,iB,iC,iD,iE,iF,hk])
   | (refine W.step (number_w (by simp only[go_sem,hk,ho]<;>rfl)) ?_;rintro _ ⟨p2,n2,l2,c2,rfl,a1,a2⟩;simp only[go_sem,reduceCtorEq,↓reduceIte,nA,nB,nC,nD,nE,iA,iB,iC,iD,iE,iF,hk])
   | (refine W.step (ahead_w _ _ (by simp only[go_sem,hk,ho]<;>rfl)) ?_;rintro _ ⟨b2,rfl,a1⟩;simp only[go_sem,reduceCtorEq,↓reduceIte,nA,nB,nC,nD,nE,iA,iB,iC,iD,iE,iF,hk])
   | (refine W.step (pattern_w (by simp only[go_sem,hk,ho]<;>rfl)) ?_;rintro _ ⟨b2,rfl,a1⟩;simp only[go_sem,reduceCtorEq,↓reduceIte,nA,nB,nC,nD,nE,iA,iB,iC,iD,iE,iF,hk])
   | (refine W.step (argument_w (by simp only[go_sem,hk,ho]<;>rfl)) ?_;rintro _ ⟨b2,rfl,a1⟩;simp only[go_sem,reduceCtorEq,↓reduceIte,nA,nB,nC,nD,nE,iA,iB,iC,iD,iE,iF,hk])
   | (refine W.step (atomic_w (by simp only[go_sem,hk,ho]<;>rfl)) ?_;rintro _ ⟨b2,rfl,a1⟩;simp only[go_sem,reduceCtorEq,↓reduceIte,nA,nB,nC,nD,nE,iA,iB,iC,iD,iE,iF,hk])
   | (refine W.step (operator_w (by simp only[go_sem,hk,ho]<;>rfl)) ?_;rintro _ ⟨b2,rfl,a1⟩;simp only[go_sem,reduceCtorEq,↓reduceIte,nA,nB,nC,nD,nE,iA,iB,iC,iD,iE,iF,hk])
   | (refine W.step (text_w _ (by simp only[go_sem,hk,ho]<;>rfl)) ?_;rintro _ ⟨p2,x2,rfl,a1,a2,a3⟩;simp only[go_sem,reduceCtorEq,↓reduceIte,nA,nB,nC,nD,nE,iA,iB,iC,iD,iE,iF,hk])
   | (refine W.step (want_w _ (by decide) (by simp only[go_sem,hk,ho]<;>rfl)) ?_;rintro _ ⟨p2,x2,rfl,a1,a2,a3⟩;simp only[go_sem,reduceCtorEq,↓reduceIte,nA,nB,nC,nD,nE,iA,iB,iC,iD,iE,iF,hk])
   | (refine W.step (fails_w _ (by simp only[go_sem,hk,ho]<;>rfl)) ?_;rintro _ ⟨p2,rfl,a1,a2,a3,a4⟩;simp only[go_sem,reduceCtorEq,↓reduceIte,nA,nB,nC,nD,nE,iA,iB,iC,iD,iE,iF,hk]))
 all_goals first
  | exact⟨_,rfl,fun _=>by assumption⟩
  | exact⟨_,rfl,fun h=>PS.is_lv h⟩
theorem minus_w (ho:obj s k=some p.ob):W (C F0 X0 105 [.ref k 0] s) fun q=>∃ p':PS,q=(.tup [],setOb s k p'.ob)∧p.le p'∧p'.m≤p.m∧p'.bad=true:=by
 have hk:=obj_lt ho
 rw[w_call (f:=105) rfl]
 simp only[go_sem,reduceCtorEq,↓reduceIte,nA,nB,nC,nD,nE,iA,iB,iC,iD,iE,iF,hk]
 repeat' (first
   | (refine W.ifc (fun d=>?_) (fun d=>?_)<;>(try have dl:=PS.is_lv d)<;>(try have dl:=PS.isk_lv d (by decide))<;>(try have dl:=a1 d)<;>(try have dl:=PS.peek_lv d (by decide))<;>(try have dm:=PS.m_ok d)<;>(try have dm:=PS.m_bad d)<;>simp only[go_sem,reduceCtorEq,↓reduceIte,nA,nB,nC,nD,nE,iA,iB,iC,iD,iE,iF,d,hk,Bool.true_or,Bool.false_or,Bool.false_and,Bool.true_and])
   | (refine W.step (is_w _ (by simp only[go_sem,hk,ho]<;>rfl)) ?_;rintro _ rfl;simp only[go_sem,reduceCtorEq,↓reduceIte,nA,nB,nC,nD,nE,iA,iB,iC,iD,iE,iF,hk])
   | (refine W.step (isk_w _ (by simp only[go_sem,hk,ho]<;>rfl)) ?_;rintro _ rfl;simp only[go_sem,reduceCtorEq,↓reduceIte,nA,nB,nC,nD,nE,iA,iB,iC,iD,iE,iF,hk])
   | (refine W.step (peek_w (by simp only[go_sem,hk,ho]<;>rfl)) ?_;rintro _ rfl;simp only[go_sem,reduceCtorEq,↓reduceIte,nA,nB,nC,nD,nE,iA,iB,iC,iD,iE,iF,hk])
   | (refine W.step (next_w (by simp only[go_sem,hk,ho]<;>rfl)) ?_;rintro _ ⟨p2,rfl,a1,a2,a3⟩;simp only[go_sem,reduceCtorEq,↓reduceIte,nA,nB,nC,nD,nE,iA,iB,iC,iD,iE,iF,hk])
   | (refine W.step (minus_w (by simp only[go_sem,hk,ho]<;>rfl)) ?_;rintro _ ⟨p2,rfl,a1,a2,a3⟩;simp only[go_sem,reduceCtorEq,↓reduceIte,nA,nB,nC,nD,nE,iA,iB,iC,iD,iE,iF,hk])
   | (refine W.step (plain_w (by simp only[go_sem,hk,ho]<;>rfl)) ?_;rintro _ ⟨p2,n2,l2,c2,rfl,a1,a2⟩;simp only[go_sem,reduceCtorEq,↓reduceIte,nA,nB,nC,nD,nE,iA,iB,iC,iD,iE,iF,hk])
   | (refine W.step (number_w (by simp only[go_sem,hk,ho]<;>rfl)) ?_;rintro _ ⟨p2,n2,l2,c2,rfl,a1,a2⟩;simp only[go_sem,reduceCtorEq,↓reduceIte,nA,nB,nC,nD,nE,iA,iB,iC,iD,iE,iF,hk])
   | (refine W.step (ahead_w _ _ (by simp only[go_sem,hk,ho]<;>rfl)) ?_;rintro _ ⟨b2,rfl,a1⟩;simp only[go_sem,reduceCtorEq,↓reduceIte,nA,nB,nC,nD,nE,iA,iB,iC,iD,iE,iF,hk])
   | (refine W.step (pattern_w (by simp only[go_sem,hk,ho]<;>rfl)) ?_;rintro _ ⟨b2,rfl,a1⟩;simp only[go_sem,reduceCtorEq,↓reduceIte,nA,nB,nC,nD,nE,iA,iB,iC,iD,iE,iF,hk])
   | (refine W.step (argument_w (by simp only[go_sem,hk,ho]<;>rfl)) ?_;rintro _ ⟨b2,rfl,a1⟩;simp only[go_sem,reduceCtorEq,↓reduceIte,nA,nB,nC,nD,nE,iA,iB,iC,iD,iE,iF,hk])
   | (refine W.step (atomic_w (by simp only[go_sem,hk,ho]<;>rfl)) ?_;rintro _ ⟨b2,rfl,a1⟩;simp only[go_sem,reduceCtorEq,↓reduceIte,nA,nB,nC,nD,nE,iA,iB,iC,iD,iE,iF,hk])
   | (refine W.step (operator_w (by simp only[go_sem,hk,ho]<;>rfl)) ?_;rintro _ ⟨b2,rfl,a1⟩;simp only[go_sem,reduceCtorEq,↓reduceIte,nA,nB,nC,nD,nE,iA,iB,iC,iD,iE,iF,hk])
   | (refine W.step (text_w _ (by simp only[go_sem,hk,ho]<;>rfl)) ?_;rintro _ ⟨p2,x2,rfl,a1,a2,a3⟩;simp only[go_sem,reduceCtorEq,↓reduceIte,nA,nB,nC,nD,nE,iA,iB,iC,iD,iE,iF,hk])
   | (refine W.step (want_w _ (by decide) (by simp only[go_sem,hk,ho]<;>rfl)) ?_;rintro _ ⟨p2,x2,rfl,a1,a2,a3⟩;simp only[go_sem,reduceCtorEq,↓reduceIte,nA,nB,nC,nD,nE,iA,iB,iC,iD,iE,iF,hk])
   | (refine W.step (fails_w _ (by simp only[go_sem,hk,ho]<;>rfl)) ?_;rintro _ ⟨p2,rfl,a1,a2,a3,a4⟩;simp only[go_sem,reduceCtorEq,↓reduceIte,nA,nB,nC,nD,nE,iA,iB,iC,iD,iE,iF,hk]))
 all_goals exact⟨_,rfl,(by repeat (first|exact PS.le_refl|assumption|(apply PS.le_trans;assumption))),by omega,by assumption⟩
theorem plain_w (ho:obj s k=some p.ob):W (C F0 X0 102 [.ref k 0] s) fun q=>∃ (p':PS) (n:Int) (l c:Nat),q=(.tup [.i .i64 n,.agg [.i .i64 (l:Nat),.i .i64 (c:Nat)]],setOb s k p'.ob)∧p.le p'∧p'.m+p.lv≤p.m:=by
 have hk:=obj_lt ho
 have hlv:=@PS.lv_le p
 rw[w_call (f:=102) rfl]
 simp only[go_sem,reduceCtorEq,↓reduceIte,nA,nB,nC,nD,nE,iA,iB,iC,iD,iE,iF,hk]
 repeat' (first
   | (refine W.ifc (fun d=>?_) (fun d=>?_)<;>(try have dl:=PS.is_lv d)<;>(try have dl:=PS.isk_lv d (by decide))<;>(try have dl:=a1 d)<;>(try have dl:=PS.peek_lv d (by decide))<;>(try have dm:=PS.m_ok d)<;>(try have dm:=PS.m_bad d)<;>simp only[go_sem,reduceCtorEq,↓reduceIte,nA,nB,nC,nD,nE,iA,iB,iC,iD,iE,iF,d,hk,Bool.true_or,Bool.false_or,Bool.false_and,Bool.true_and])
   | (refine W.step (is_w _ (by simp only[go_sem,hk,ho]<;>rfl)) ?_;rintro _ rfl;simp only[go_sem,reduceCtorEq,↓reduceIte,nA,nB,nC,nD,nE,iA,iB,iC,iD,iE,iF,hk])
   | (refine W.step (isk_w _ (by simp only[go_sem,hk,ho]<;>rfl)) ?_;rintro _ rfl;simp only[go_sem,reduceCtorEq,↓reduceIte,nA,nB,nC,nD,nE,iA,iB,iC,iD,iE,iF,hk])
   | (refine W.step (peek_w (by simp only[go_sem,hk,ho]<;>rfl)) ?_;rintro _ rfl;simp only[go_sem,reduceCtorEq,↓reduceIte,nA,nB,nC,nD,nE,iA,iB,iC,iD,iE,iF,hk])
   | (refine W.step (next_w (by simp only[go_sem,hk,ho]<;>rfl)) ?_;rintro _ ⟨p2,rfl,a1,a2,a3⟩;simp only[go_sem,reduceCtorEq,↓reduceIte,nA,nB,nC,nD,nE,iA,iB,iC,iD,iE,iF,hk])
   | (refine W.step (minus_w (by simp only[go_sem,hk,ho]<;>rfl)) ?_;rintro _ ⟨p2,rfl,a1,a2,a3⟩;simp only[go_sem,reduceCtorEq,↓reduceIte,nA,nB,nC,nD,nE,iA,iB,iC,iD,iE,iF,hk])
   | (refine W.step (plain_w (by simp only[go_sem,hk,ho]<;>rfl)) ?_;rintro _ ⟨p2,n2,l2,c2,rfl,a1,a2⟩;simp only[go_sem,reduceCtorEq,↓reduceIte,nA,nB,nC,nD,nE,iA,iB,iC,iD,iE,iF,hk])
   | (refine W.step (number_w (by simp only[go_sem,hk,ho]<;>rfl)) ?_;rintro _ ⟨p2,n2,l2,c2,rfl,a1,a2⟩;simp only[go_sem,reduceCtorEq,↓reduceIte,nA,nB,nC,nD,nE,iA,iB,iC,iD,iE,iF,hk])
   | (refine W.step (ahead_w _ _ (by simp only[go_sem,hk,ho]<;>rfl)) ?_;rintro _ ⟨b2,rfl,a1⟩;simp only[go_sem,reduceCtorEq,↓reduceIte,nA,nB,nC,nD,nE,iA,iB,iC,iD,iE,iF,hk])
   | (refine W.step (pattern_w (by simp only[go_sem,hk,ho]<;>rfl)) ?_;rintro _ ⟨b2,rfl,a1⟩;simp only[go_sem,reduceCtorEq,↓reduceIte,nA,nB,nC,nD,nE,iA,iB,iC,iD,iE,iF,hk])
   | (refine W.step (argument_w (by simp only[go_sem,hk,ho]<;>rfl)) ?_;rintro _ ⟨b2,rfl,a1⟩;simp only[go_sem,reduceCtorEq,↓reduceIte,nA,nB,nC,nD,nE,iA,iB,iC,iD,iE,iF,hk])
   | (refine W.step (atomic_w (by simp only[go_sem,hk,ho]<;>rfl)) ?_;rintro _ ⟨b2,rfl,a1⟩;simp only[go_sem,reduceCtorEq,↓reduceIte,nA,nB,nC,nD,nE,iA,iB,iC,iD,iE,iF,hk])
   | (refine W.step (operator_w (by simp only[go_sem,hk,ho]<;>rfl)) ?_;rintro _ ⟨b2,rfl,a1⟩;simp only[go_sem,reduceCtorEq,↓reduceIte,nA,nB,nC,nD,nE,iA,iB,iC,iD,iE,iF,hk])
   | (refine W.step (text_w _ (by simp only[go_sem,hk,ho]<;>rfl)) ?_;rintro _ ⟨p2,x2,rfl,a1,a2,a3⟩;simp only[go_sem,reduceCtorEq,↓reduceIte,nA,nB,nC,nD,nE,iA,iB,iC,iD,iE,iF,hk])
   | (refine W.step (want_w _ (by decide) (by simp only[go_sem,hk,ho]<;>rfl)) ?_;rintro _ ⟨p2,x2,rfl,a1,a2,a3⟩;simp only[go_sem,reduceCtorEq,↓reduceIte,nA,nB,nC,nD,nE,iA,iB,iC,iD,iE,iF,hk])
   | (refine W.step (fails_w _ (by simp only[go_sem,hk,ho]<;>rfl)) ?_;rintro _ ⟨p2,rfl,a1,a2,a3,a4⟩;simp only[go_sem,reduceCtorEq,↓reduceIte,nA,nB,nC,nD,nE,iA,iB,iC,iD,iE,iF,hk]))
 all_goals exact⟨_,_,_,_,rfl,(by repeat (first|exact PS.le_refl|assumption|(apply PS.le_trans;assumption))),by omega⟩
theorem number_w (ho:obj s k=some p.ob):W (C F0 X0 104 [.ref k 0] s) fun q=>∃ (p':PS) (n:Int) (l c:Nat),q=(.tup [.i .i64 n,.agg [.i .i64 (l:Nat),.i .i64 (c:Nat)]],setOb s k p'.ob)∧p.le p'∧p'.m+p.lv≤p.m:=by
 have hk:=obj_lt ho
 have hlv:=@PS.lv_le p
 rw[w_call (f:=104) rfl]
 simp only[go_sem,reduceCtorEq,↓reduceIte,nA,nB,nC,nD,nE,iA,iB,iC,iD,iE,iF,hk]
 repeat' (first
   | (refine W.ifc (fun d=>?_) (fun d=>?_)<;>(try have dl:=PS.is_lv d)<;>(try have dl:=PS.isk_lv d (by decide))<;>(try have dl:=a1 d)<;>(try have dl:=PS.peek_lv d (by decide))<;>(try have dm:=PS.m_ok d)<;>(try have dm:=PS.m_bad d)<;>simp only[go_sem,reduceCtorEq,↓reduceIte,nA,nB,nC,nD,nE,iA,iB,iC,iD,iE,iF,d,hk,Bool.true_or,Bool.false_or,Bool.false_and,Bool.true_and])
   | (refine W.step (is_w _ (by simp only[go_sem,hk,ho]<;>rfl)) ?_;rintro _ rfl;simp only[go_sem,reduceCtorEq,↓reduceIte,nA,nB,nC,nD,nE,iA,iB,iC,iD,iE,iF,hk])
   | (refine W.step (isk_w _ (by simp only[go_sem,hk,ho]<;>rfl)) ?_;rintro _ rfl;simp only[go_sem,reduceCtorEq,↓reduceIte,nA,nB,nC,nD,nE,iA,iB,iC,iD,iE,iF,hk])
   | (refine W.step (peek_w (by simp only[go_sem,hk,ho]<;>rfl)) ?_;rintro _ rfl;simp only[go_sem,reduceCtorEq,↓reduceIte,nA,nB,nC,nD,nE,iA,iB,iC,iD,iE,iF,hk])
   | (refine W.step (next_w (by simp only[go_sem,hk,ho]<;>rfl)) ?_;rintro _ ⟨p2,rfl,a1,a2,a3⟩;simp only[go_sem,reduceCtorEq,↓reduceIte,nA,nB,nC,nD,nE,iA,iB,iC,iD,iE,iF,hk])
   | (refine W.step (minus_w (by simp only[go_sem,hk,ho]<;>rfl)) ?_;rintro _ ⟨p2,rfl,a1,a2,a3⟩;simp only[go_sem,reduceCtorEq,↓reduceIte,nA,nB,nC,nD,nE,iA,iB,iC,iD,iE,iF,hk])
   | (refine W.step (plain_w (by simp only[go_sem,hk,ho]<;>rfl)) ?_;rintro _ ⟨p2,n2,l2,c2,rfl,a1,a2⟩;simp only[go_sem,reduceCtorEq,↓reduceIte,nA,nB,nC,nD,nE,iA,iB,iC,iD,iE,iF,hk])
   | (refine W.step (number_w (by simp only[go_sem,hk,ho]<;>rfl)) ?_;rintro _ ⟨p2,n2,l2,c2,rfl,a1,a2⟩;simp only[go_sem,reduceCtorEq,↓reduceIte,nA,nB,nC,nD,nE,iA,iB,iC,iD,iE,iF,hk])
   | (refine W.step (ahead_w _ _ (by simp only[go_sem,hk,ho]<;>rfl)) ?_;rintro _ ⟨b2,rfl,a1⟩;simp only[go_sem,reduceCtorEq,↓reduceIte,nA,nB,nC,nD,nE,iA,iB,iC,iD,iE,iF,hk])
   | (refine W.step (pattern_w (by simp only[go_sem,hk,ho]<;>rfl)) ?_;rintro _ ⟨b2,rfl,a1⟩;simp only[go_sem,reduceCtorEq,↓reduceIte,nA,nB,nC,nD,nE,iA,iB,iC,iD,iE,iF,hk])
   | (refine W.step (argument_w (by simp only[go_sem,hk,ho]<;>rfl)) ?_;rintro _ ⟨b2,rfl,a1⟩;simp only[go_sem,reduceCtorEq,↓reduceIte,nA,nB,nC,nD,nE,iA,iB,iC,iD,iE,iF,hk])
   | (refine W.step (atomic_w (by simp only[go_sem,hk,ho]<;>rfl)) ?_;rintro _ ⟨b2,rfl,a1⟩;simp only[go_sem,reduceCtorEq,↓reduceIte,nA,nB,nC,nD,nE,iA,iB,iC,iD,iE,iF,hk])
   | (refine W.step (operator_w (by simp only[go_sem,hk,ho]<;>rfl)) ?_;rintro _ ⟨b2,rfl,a1⟩;simp only[go_sem,reduceCtorEq,↓reduceIte,nA,nB,nC,nD,nE,iA,iB,iC,iD,iE,iF,hk])
   | (refine W.step (text_w _ (by simp only[go_sem,hk,ho]<;>rfl)) ?_;rintro _ ⟨p2,x2,rfl,a1,a2,a3⟩;simp only[go_sem,reduceCtorEq,↓reduceIte,nA,nB,nC,nD,nE,iA,iB,iC,iD,iE,iF,hk])
   | (refine W.step (want_w _ (by decide) (by simp only[go_sem,hk,ho]<;>rfl)) ?_;rintro _ ⟨p2,x2,rfl,a1,a2,a3⟩;simp only[go_sem,reduceCtorEq,↓reduceIte,nA,nB,nC,nD,nE,iA,iB,iC,iD,iE,iF,hk])
   | (refine W.step (fails_w _ (by simp only[go_sem,hk,ho]<;>rfl)) ?_;rintro _ ⟨p2,rfl,a1,a2,a3,a4⟩;simp only[go_sem,reduceCtorEq,↓reduceIte,nA,nB,nC,nD,nE,iA,iB,iC,iD,iE,iF,hk]))
 all_goals exact⟨_,_,_,_,rfl,(by repeat (first|exact PS.le_refl|assumption|(apply PS.le_trans;assumption))),by omega⟩
theorem ahead_w (x:Str) (y:Int) (ho:obj s k=some p.ob):W (C F0 X0 103 [.ref k 0,.s x,.i .i64 y] s) fun q=>∃ b,q=(.b b,s)∧(b=true→p.lv=1):=by
 have hk:=obj_lt ho
 have hi:=p.hi
 have hl:=p.hl
 have h1:=@wrap_one p.i (by omega)
 have h2:IntKind.i64.wrap ((p.i:Int)+2)=((p.i+2:Nat):Int):=wrap_nat (n:=p.i+2) (by omega)
 rw[w_call (f:=103) rfl]
 have ho2:=ho
 unfold PS.ob at ho2
 simp only[go_sem,reduceCtorEq,↓reduceIte,nA,nB,nC,nD,nE,iA,iB,iC,iD,iE,iF,hk,ho2]
 refine W.step (is_w _ ho) ?_
 rintro _ rfl
 simp only[go_sem,reduceCtorEq,↓reduceIte,nA,nB,nC,nD,nE,iA,iB,iC,iD,iE,iF,hk,ho2]
 refine W.ifc (fun d=>?_) (fun d=>?_)
 ·have dl:=PS.is_lv d
  simp only[go_sem,reduceCtorEq,↓reduceIte,nA,nB,nC,nD,nE,iA,iB,iC,iD,iE,iF,hk,ho2,d,h2]
  refine W.ifc (fun d2=>?_) (fun d2=>?_)
  ·simp only[go_sem,reduceCtorEq,↓reduceIte,nA,nB,nC,nD,nE,iA,iB,iC,iD,iE,iF,d2]
   exact⟨_,rfl,fun _=>dl⟩
  ·have e1:=toks_iad (l:=p.l) (i:=p.i+1) (by simp at d2;omega)
   have e2:=toks_iad (l:=p.l) (i:=p.i+2) (by simp at d2;omega)
   generalize p.l[p.i+1]'_=t1 at e1
   generalize p.l[p.i+2]'_=t2 at e2
   simp only[go_sem,reduceCtorEq,↓reduceIte,nA,nB,nC,nD,nE,iA,iB,iC,iD,iE,iF,hk,ho2,d2,h1,h2,e1,e2]
   repeat' (refine W.ifc (fun d3=>?_) (fun d3=>?_)<;>simp only[go_sem,reduceCtorEq,↓reduceIte,nA,nB,nC,nD,nE,iA,iB,iC,iD,iE,iF,d3])
   all_goals exact⟨_,rfl,fun _=>dl⟩
 ·simp only[go_sem,reduceCtorEq,↓reduceIte,nA,nB,nC,nD,nE,iA,iB,iC,iD,iE,iF,hk,ho2,d]
  exact⟨_,rfl,fun h=>by cases h⟩
theorem operator_w (ho:obj s k=some p.ob):W (C F0 X0 146 [.ref k 0] s) fun q=>∃ b,q=(.b b,s)∧(b=true→p.lv=1):=by
 have hk:=obj_lt ho
 have hi:=p.hi
 have hl:=p.hl
 have h1:=@wrap_one p.i (by omega)
 rw[w_call (f:=146) rfl]
 have ho2:=ho
 unfold PS.ob at ho2
 simp only[go_sem,reduceCtorEq,↓reduceIte,nA,nB,nC,nD,nE,iA,iB,iC,iD,iE,iF,hk,ho2]
 refine W.step (is_w _ ho) ?_
 rintro _ rfl
 simp only[go_sem,reduceCtorEq,↓reduceIte,nA,nB,nC,nD,nE,iA,iB,iC,iD,iE,iF,hk,ho2]
 refine W.ifc (fun d=>?_) (fun d=>?_)
 ·have dl:=PS.is_lv d
  simp only[go_sem,reduceCtorEq,↓reduceIte,nA,nB,nC,nD,nE,iA,iB,iC,iD,iE,iF,hk,ho2,d,h1]
  refine W.ifc (fun d2=>?_) (fun d2=>?_)
  ·have e1:=toks_iad (l:=p.l) (i:=p.i+1) (by simp at d2;omega)
   generalize p.l[p.i+1]'_=t1 at e1
   simp only[go_sem,reduceCtorEq,↓reduceIte,nA,nB,nC,nD,nE,iA,iB,iC,iD,iE,iF,hk,ho2,d2,h1,e1]
   exact⟨_,rfl,fun _=>dl⟩
  ·simp only[go_sem,reduceCtorEq,↓reduceIte,nA,nB,nC,nD,nE,iA,iB,iC,iD,iE,iF,d2]
   exact⟨_,rfl,fun _=>dl⟩
 ·simp only[go_sem,reduceCtorEq,↓reduceIte,nA,nB,nC,nD,nE,iA,iB,iC,iD,iE,iF,hk,ho2,d]
  exact⟨_,rfl,fun h=>by cases h⟩
end
end Go.Am
namespace Go.Am
open Go
theorem PS.m_le {p:PS}:p.m≤12001:=by have:=p.hl;unfold PS.m;split<;>omega
def PZ (z:Nat) (p p':PS):Prop:=p.le p'∧p'.m≤p.m - 1∧(z≤1∨z+20*p'.m+5≤20*p.m)
theorem PS.alow {p:PS} {n}:AV.alowL n [lst (.st 6) (p.l.map Tok.av),.i .i64 (p.i:Int),.b p.bad,.i .i64 p.e,.i .i64 p.ln,.i .i64 p.cl]=true:=by
 simp[alowL_cons,alowL_nil,lst_alow,alow_i,alow_b]
theorem back_ps {s:St} {v A N k} {p:PS} (h:Old s.nxt A s.arr) (hv:v.alow s.nxt=true):back s v (wa (setOb s k p.ob) A N)=setOb s k p.ob:=back_was h hv PS.alow
theorem back_ps0 {s:St} {v k} {p:PS} (hv:v.alow s.nxt=true):back s v (setOb s k p.ob)=setOb s k p.ob:=back_ps (A:=s.arr) (N:=s.nxt) Old.refl hv
theorem ld_bad {p:PS}:ldk .one 2 (some p.ob)=some (.b p.bad):=(rfl)
attribute [go_sem] ld_bad
abbrev PatL (n:Nat):Prop:=∀ (p:PS) (s:St) (k:Nat),obj s k=some p.ob→p.m<n→W (C F0 X0 106 [.ref k 0] s) fun q=>∃ (p':PS) (r:Pat),q=(r.av,setOb s k p'.ob)∧PZ r.sz p p'
abbrev ApatL (n:Nat):Prop:=∀ (p:PS) (s:St) (k:Nat),obj s k=some p.ob→p.m<n→W (C F0 X0 64 [.ref k 0] s) fun q=>∃ (p':PS) (r:Pat),q=(r.av,setOb s k p'.ob)∧PZ r.sz p p'
theorem apat_step (n:Nat) (hpat:PatL n):ApatL (n+1):=by
 intro p s k ho hn
 have hk:=obj_lt ho
 have hlv:=@PS.lv_le p
 rw[w_call (f:=64) rfl]
 simp only[go_sem,reduceCtorEq,↓reduceIte,nA,nB,nC,nD,nE,iA,iB,iC,iD,iE,iF,hk]
 repeat' (first
   | (refine W.ifc (fun d=>?_) (fun d=>?_)<;>(try have dl:=PS.is_lv d)<;>(try have dl:=PS.isk_lv d (by decide))<;>(try have dl:=a1 d)<;>(try have dl:=PS.peek_lv d (by decide))<;>(try have dm:=PS.m_ok d)<;>(try have dm:=PS.m_bad d)<;>simp only[go_sem,reduceCtorEq,↓reduceIte,nA,nB,nC,nD,nE,iA,iB,iC,iD,iE,iF,d,hk,Bool.true_or,Bool.false_or,Bool.false_and,Bool.true_and])
   | (refine W.step (is_w _ (by simp only[go_sem,hk,ho]<;>rfl)) ?_;rintro _ rfl;simp only[go_sem,reduceCtorEq,↓reduceIte,nA,nB,nC,nD,nE,iA,iB,iC,iD,iE,iF,hk])
   | (refine W.step (isk_w _ (by simp only[go_sem,hk,ho]<;>rfl)) ?_;rintro _ rfl;simp only[go_sem,reduceCtorEq,↓reduceIte,nA,nB,nC,nD,nE,iA,iB,iC,iD,iE,iF,hk])
   | (refine W.step (peek_w (by simp only[go_sem,hk,ho]<;>rfl)) ?_;rintro _ rfl;simp only[go_sem,reduceCtorEq,↓reduceIte,nA,nB,nC,nD,nE,iA,iB,iC,iD,iE,iF,hk])
   | (refine W.step (next_w (by simp only[go_sem,hk,ho]<;>rfl)) ?_;rintro _ ⟨p2,rfl,a1,a2,a3⟩;simp only[go_sem,reduceCtorEq,↓reduceIte,nA,nB,nC,nD,nE,iA,iB,iC,iD,iE,iF,hk])
   | (refine W.step (minus_w (by simp only[go_sem,hk,ho]<;>rfl)) ?_;rintro _ ⟨p2,rfl,a1,a2,a3⟩;simp only[go_sem,reduceCtorEq,↓reduceIte,nA,nB,nC,nD,nE,iA,iB,iC,iD,iE,iF,hk])
   | (refine W.step (plain_w (by simp only[go_sem,hk,ho]<;>rfl)) ?_;rintro _ ⟨p2,n2,l2,c2,rfl,a1,a2⟩;simp only[go_sem,reduceCtorEq,↓reduceIte,nA,nB,nC,nD,nE,iA,iB,iC,iD,iE,iF,hk])
   | (refine W.step (number_w (by simp only[go_sem,hk,ho]<;>rfl)) ?_;rintro _ ⟨p2,n2,l2,c2,rfl,a1,a2⟩;simp only[go_sem,reduceCtorEq,↓reduceIte,nA,nB,nC,nD,nE,iA,iB,iC,iD,iE,iF,hk])
   | (refine W.step (ahead_w _ _ (by simp only[go_sem,hk,ho]<;>rfl)) ?_;rintro _ ⟨b2,rfl,a1⟩;simp only[go_sem,reduceCtorEq,↓reduceIte,nA,nB,nC,nD,nE,iA,iB,iC,iD,iE,iF,hk])
   | (refine W.step (pattern_w (by simp only[go_sem,hk,ho]<;>rfl)) ?_;rintro _ ⟨b2,rfl,a1⟩;simp only[go_sem,reduceCtorEq,↓reduceIte,nA,nB,nC,nD,nE,iA,iB,iC,iD,iE,iF,hk])
   | (refine W.step (argument_w (by simp only[go_sem,hk,ho]<;>rfl)) ?_;rintro _ ⟨b2,rfl,a1⟩;simp only[go_sem,reduceCtorEq,↓reduceIte,nA,nB,nC,nD,nE,iA,iB,iC,iD,iE,iF,hk])
   | (refine W.step (atomic_w (by simp only[go_sem,hk,ho]<;>rfl)) ?_;rintro _ ⟨b2,rfl,a1⟩;simp only[go_sem,reduceCtorEq,↓reduceIte,nA,nB,nC,nD,nE,iA,iB,iC,iD,iE,iF,hk])
   | (refine W.step (operator_w (by simp only[go_sem,hk,ho]<;>rfl)) ?_;rintro _ ⟨b2,rfl,a1⟩;simp only[go_sem,reduceCtorEq,↓reduceIte,nA,nB,nC,nD,nE,iA,iB,iC,iD,iE,iF,hk])
   | (refine W.step (text_w _ (by simp only[go_sem,hk,ho]<;>rfl)) ?_;rintro _ ⟨p2,x2,rfl,a1,a2,a3⟩;simp only[go_sem,reduceCtorEq,↓reduceIte,nA,nB,nC,nD,nE,iA,iB,iC,iD,iE,iF,hk])
   | (refine W.step (want_w _ (by decide) (by simp only[go_sem,hk,ho]<;>rfl)) ?_;rintro _ ⟨p2,x2,rfl,a1,a2,a3⟩;simp only[go_sem,reduceCtorEq,↓reduceIte,nA,nB,nC,nD,nE,iA,iB,iC,iD,iE,iF,hk])
   | (refine W.step (fails_w _ (by simp only[go_sem,hk,ho]<;>rfl)) ?_;rintro _ ⟨p2,rfl,a1,a2,a3,a4⟩;simp only[go_sem,reduceCtorEq,↓reduceIte,nA,nB,nC,nD,nE,iA,iB,iC,iD,iE,iF,hk])
   | (refine W.step (hpat _ _ _ (by simp only[go_sem,hk,ho]<;>rfl) (by omega)) ?_;rintro _ ⟨p2,r2,rfl,a1,a2,a3⟩;simp only[go_sem,reduceCtorEq,↓reduceIte,nA,nB,nC,nD,nE,iA,iB,iC,iD,iE,iF,hk]))
 all_goals first
  | exact⟨_,Pat.mk _ _ _ [] _ _,rfl,(by repeat (first|exact PS.le_refl|assumption|(apply PS.le_trans;assumption))),by omega,.inl (Nat.le_refl _)⟩
  | exact⟨_,_,rfl,(by repeat (first|exact PS.le_refl|assumption|(apply PS.le_trans;assumption))),by omega,by omega⟩
  | skip
theorem pat_step (n:Nat) (hapat:ApatL n):PatL n:=by
 intro p s k ho hn
 have hk:=obj_lt ho
 have hlv:=@PS.lv_le p
 rw[w_call (f:=106) rfl]
 simp only[go_sem,reduceCtorEq,↓reduceIte,nA,nB,nC,nD,nE,iA,iB,iC,iD,iE,iF,hk]
 repeat' (first
   | (refine W.ifc (fun d=>?_) (fun d=>?_)<;>(try have dl:=PS.is_lv d)<;>(try have dl:=PS.isk_lv d (by decide))<;>(try have dl:=a1 d)<;>(try have dl:=PS.peek_lv d (by decide))<;>(try have dm:=PS.m_ok d)<;>(try have dm:=PS.m_bad d)<;>simp only[go_sem,reduceCtorEq,↓reduceIte,nA,nB,nC,nD,nE,iA,iB,iC,iD,iE,iF,d,hk,Bool.true_or,Bool.false_or,Bool.false_and,Bool.true_and])
   | (refine W.step (is_w _ (by simp only[go_sem,hk,ho]<;>rfl)) ?_;rintro _ rfl;simp only[go_sem,reduceCtorEq,↓reduceIte,nA,nB,nC,nD,nE,iA,iB,iC,iD,iE,iF,hk])
   | (refine W.step (isk_w _ (by simp only[go_sem,hk,ho]<;>rfl)) ?_;rintro _ rfl;simp only[go_sem,reduceCtorEq,↓reduceIte,nA,nB,nC,nD,nE,iA,iB,iC,iD,iE,iF,hk])
   | (refine W.step (peek_w (by simp only[go_sem,hk,ho]<;>rfl)) ?_;rintro _ rfl;simp only[go_sem,reduceCtorEq,↓reduceIte,nA,nB,nC,nD,nE,iA,iB,iC,iD,iE,iF,hk])
   | (refine W.step (next_w (by simp only[go_sem,hk,ho]<;>rfl)) ?_;rintro _ ⟨p2,rfl,a1,a2,a3⟩;simp only[go_sem,reduceCtorEq,↓reduceIte,nA,nB,nC,nD,nE,iA,iB,iC,iD,iE,iF,hk])
   | (refine W.step (minus_w (by simp only[go_sem,hk,ho]<;>rfl)) ?_;rintro _ ⟨p2,rfl,a1,a2,a3⟩;simp only[go_sem,reduceCtorEq,↓reduceIte,nA,nB,nC,nD,nE,iA,iB,iC,iD,iE,iF,hk])
   | (refine W.step (plain_w (by simp only[go_sem,hk,ho]<;>rfl)) ?_;rintro _ ⟨p2,n2,l2,c2,rfl,a1,a2⟩;simp only[go_sem,reduceCtorEq,↓reduceIte,nA,nB,nC,nD,nE,iA,iB,iC,iD,iE,iF,hk])
   | (refine W.step (number_w (by simp only[go_sem,hk,ho]<;>rfl)) ?_;rintro _ ⟨p2,n2,l2,c2,rfl,a1,a2⟩;simp only[go_sem,reduceCtorEq,↓reduceIte,nA,nB,nC,nD,nE,iA,iB,iC,iD,iE,iF,hk])
   | (refine W.step (ahead_w _ _ (by simp only[go_sem,hk,ho]<;>rfl)) ?_;rintro _ ⟨b2,rfl,a1⟩;simp only[go_sem,reduceCtorEq,↓reduceIte,nA,nB,nC,nD,nE,iA,iB,iC,iD,iE,iF,hk])
   | (refine W.step (pattern_w (by simp only[go_sem,hk,ho]<;>rfl)) ?_;rintro _ ⟨b2,rfl,a1⟩;simp only[go_sem,reduceCtorEq,↓reduceIte,nA,nB,nC,nD,nE,iA,iB,iC,iD,iE,iF,hk])
   | (refine W.step (argument_w (by simp only[go_sem,hk,ho]<;>rfl)) ?_;rintro _ ⟨b2,rfl,a1⟩;simp only[go_sem,reduceCtorEq,↓reduceIte,nA,nB,nC,nD,nE,iA,iB,iC,iD,iE,iF,hk])
   | (refine W.step (atomic_w (by simp only[go_sem,hk,ho]<;>rfl)) ?_;rintro _ ⟨b2,rfl,a1⟩;simp only[go_sem,reduceCtorEq,↓reduceIte,nA,nB,nC,nD,nE,iA,iB,iC,iD,iE,iF,hk])
   | (refine W.step (operator_w (by simp only[go_sem,hk,ho]<;>rfl)) ?_;rintro _ ⟨b2,rfl,a1⟩;simp only[go_sem,reduceCtorEq,↓reduceIte,nA,nB,nC,nD,nE,iA,iB,iC,iD,iE,iF,hk])
   | (refine W.step (text_w _ (by simp only[go_sem,hk,ho]<;>rfl)) ?_;rintro _ ⟨p2,x2,rfl,a1,a2,a3⟩;simp only[go_sem,reduceCtorEq,↓reduceIte,nA,nB,nC,nD,nE,iA,iB,iC,iD,iE,iF,hk])
   | (refine W.step (want_w _ (by decide) (by simp only[go_sem,hk,ho]<;>rfl)) ?_;rintro _ ⟨p2,x2,rfl,a1,a2,a3⟩;simp only[go_sem,reduceCtorEq,↓reduceIte,nA,nB,nC,nD,nE,iA,iB,iC,iD,iE,iF,hk])
   | (refine W.step (fails_w _ (by simp only[go_sem,hk,ho]<;>rfl)) ?_;rintro _ ⟨p2,rfl,a1,a2,a3,a4⟩;simp only[go_sem,reduceCtorEq,↓reduceIte,nA,nB,nC,nD,nE,iA,iB,iC,iD,iE,iF,hk])
   | (refine W.step (hapat _ _ _ (by simp only[go_sem,hk,ho]<;>rfl) (by omega)) ?_;rintro _ ⟨p2,r2,rfl,a1,a2,a3⟩;simp only[go_sem,reduceCtorEq,↓reduceIte,nA,nB,nC,nD,nE,iA,iB,iC,iD,iE,iF,hk]))
 ·obtain⟨l1,hl1⟩:∃ l1:List Ob,l1=[.cells [.i .i64 0,.s [],.i .i64 0,.nsl,.i .i64 0,.i .i64 0],.cells [.i .i64 p.peek.kind,.s p.peek.text,.i .i64 p.peek.n,.i .i64 (p.peek.line:Nat),.i .i64 (p.peek.col:Nat),.b p.peek.made]]:=⟨_,rfl⟩
  have hmle:=@PS.m_le p2
  refine W.step (W.loop (L:=l106_0) (Q:=fun q=>∃ (pc:PS) (xs:List Pat) (v:AV) (A:Nat→Option (List AV)) (N:Nat),q=(.exit 0,[(0,.ref k 0),(2,.ref (cnt s) 0),(4,.ref (cnt s+2) 0),(23,.b false)],wa (ex (setOb s k pc.ob) (l1++[.cells [.i .i64 4,.s p.peek.text,.i .i64 0,v,.i .i64 (p.peek.line:Nat),.i .i64 (p.peek.col:Nat)]])) A N)∧Loc s.arr s.nxt A N (.st 6) v (xs.map Pat.av)∧p2.le pc∧(xs.map Pat.sz).sum+20*pc.m≤20*p2.m) rfl (fun i e t=>∃ (pc:PS) (xs:List Pat) (v:AV) (A:Nat→Option (List AV)) (N:Nat),i=pc.m∧e=[(0,.ref k 0),(2,.ref (cnt s) 0),(4,.ref (cnt s+2) 0)]∧t=wa (ex (setOb s k pc.ob) (l1++[.cells [.i .i64 4,.s p.peek.text,.i .i64 0,v,.i .i64 (p.peek.line:Nat),.i .i64 (p.peek.col:Nat)]])) A N∧Loc s.arr s.nxt A N (.st 6) v (xs.map Pat.av)∧p2.le pc∧(xs.map Pat.sz).sum+20*pc.m≤20*p2.m) ?_ _ _ _ ⟨p2,[],.nsl,s.arr,s.nxt,rfl,rfl,by rw[hl1];rfl,Loc.nil,PS.le_refl,by simp⟩) ?_
  ·rintro i e t ⟨pc,xs,v,A,N,rfl,rfl,rfl,hL,hle,hsum⟩
   simp only[go_sem,reduceCtorEq,↓reduceIte,nA,nB,nC,nD,nE,iA,iB,iC,iD,iE,iF,hl1,hk]
   refine W.step (pattern_w (p:=pc) (by simp only[go_sem,hk,ho]<;>rfl)) ?_
   rintro _ ⟨b,rfl,hb⟩
   simp only[go_sem,reduceCtorEq,↓reduceIte,nA,nB,nC,nD,nE,iA,iB,iC,iD,iE,iF,hl1,hk]
   cases b with
   | false =>
    simp only[go_sem,reduceCtorEq,↓reduceIte,nA,nB,nC,nD,nE,iA,iB,iC,iD,iE,iF,hl1,hk]
    exact⟨pc,xs,v,A,N,rfl,hL,hle,hsum⟩
   | true =>
    have dl:=hb rfl
    have hlv2:=@PS.lv_m pc dl
    simp only[go_sem,reduceCtorEq,↓reduceIte,nA,nB,nC,nD,nE,iA,iB,iC,iD,iE,iF,hl1,hk]
    refine W.step (hapat pc _ _ (by simp only[go_sem,hk,ho]<;>rfl) (by omega)) ?_
    rintro _ ⟨p3,r3,rfl,a1,a2,a3⟩
    have hlen:=Pat.szs_len xs
    obtain⟨v',A',N',k1,k2⟩:=hL.push (y:=r3.av) (cy:=r3.av.cells) rfl r3.ele (by simp;unfold most;omega)
    rw[Pat.cells_eq] at k1
    have e1:xs.map Pat.av++[r3.av]=(xs++[r3]).map Pat.av:=by simp
    rw[e1] at k2
    have hone:v'.cells=[v']:=by obtain⟨d,h,-⟩:=k2;exact h.one
    simp only[go_sem,reduceCtorEq,↓reduceIte,nA,nB,nC,nD,nE,iA,iB,iC,iD,iE,iF,hl1,hk,hL.low,k1,k2.low,hone]
    exact⟨p3.m,by omega,p3,xs++[r3],v',A',N',rfl,rfl,k2,PS.le_trans hle a1,by simp;omega⟩
  ·rintro q ⟨pc,xs,v,A,N,rfl,hL,hle,hsum⟩
   obtain⟨A',k1,k2⟩:=hL.fin
   have hone:v.cells=[v]:=by obtain⟨d,h,-⟩:=hL;exact h.one
   simp only[go_sem,reduceCtorEq,↓reduceIte,nA,nB,nC,nD,nE,iA,iB,iC,iD,iE,iF,hl1,hk,hL.low,hone]
   simp only[go_sem,reduceCtorEq,↓reduceIte,nA,nB,nC,nD,nE,iA,iB,iC,iD,iE,iF,k1]
   have hsz:=Pat.szs_sum xs
   refine⟨pc,Pat.mk 4 p.peek.text 0 xs p.peek.line p.peek.col,?_,(by repeat (first|exact PS.le_refl|assumption|(apply PS.le_trans;assumption))),?_,?_⟩
   ·rw[Pat.av_eq,back_ps k2 (by simp[alow_agg,alowL_cons,alowL_nil,alow_i,alow_s,lst_alow])];rfl
   ·omega
   ·unfold Pat.sz;omega
 all_goals first
  | exact⟨_,Pat.mk _ _ _ [] _ _,rfl,(by repeat (first|exact PS.le_refl|assumption|(apply PS.le_trans;assumption))),by omega,.inl (Nat.le_refl _)⟩
  | exact⟨_,_,rfl,(by repeat (first|exact PS.le_refl|assumption|(apply PS.le_trans;assumption))),by omega,by omega⟩
end Go.Am
namespace Go.Am
open Go
theorem frz_os {s:St} {a n:Nat} {el:El} {k:Nat} {cs:List AV} (hn:s.nxt=a) (hl:cs.length=k*el.size):frz (n+1) (.os a el k) (newAr s cs)=(frzAll (frz n) cs (wa s (upd (upd s.arr a (some cs)) a none) (a+1))).bind fun q=>(chunk el k q.1).bind fun ys=>some (.sl el ys,q.2):=by
 subst hn
 rw[Am.frz]
 have:(newAr s cs).arr s.nxt=some cs:=upd_same
 rw[this]
 dsimp only
 rw[List.take_of_length_le (by omega)]
 show (match frzAll (frz n) cs (wa s (upd (upd s.arr s.nxt (some cs)) s.nxt none) (s.nxt+1)) with|some (c,s1)=>_|none=>none)=_
 cases frzAll (frz n) cs (wa s (upd (upd s.arr s.nxt (some cs)) s.nxt none) (s.nxt+1)) with
 | none=>rfl
 | some q =>
  obtain⟨c,s1⟩:=q
  dsimp only[Option.bind_some]
  cases chunk el k c<;>rfl
def ifk {α:Type} (b:Bool) (x:α):Option α:=if b then some x else none
theorem ifk_t {α:Type} {x:α}:ifk true x=some x:=(rfl)
theorem finL_n:AV.finL []=true:=(rfl)
theorem finL_c {x xs}:AV.finL (x::xs)=(x.fin&&AV.finL xs):=(rfl)
theorem fin_s {t}:AV.fin (.s t)=true:=(rfl)
theorem fin_nsl:AV.fin .nsl=true:=(rfl)
theorem fin_slx {el xs}:AV.fin (.sl el xs)=AV.finL xs:=(rfl)
theorem fin_agg {xs}:AV.fin (.agg xs)=AV.finL xs:=(rfl)
theorem ty_finl {l:List Ty}:AV.finL (l.map Ty.av)=true:=by rw[←Ty.avs_map];exact Ty.fins l
theorem pat_finl {l:List Pat}:AV.finL (l.map Pat.av)=true:=by rw[←Pat.avs_map];exact Pat.fins l
theorem xp_finl {l:List Xp}:AV.finL (l.map Xp.av)=true:=by rw[←Xp.avs_map];exact Xp.fins l
theorem alt_finl {l:List Alt}:AV.finL (l.map Alt.av)=true:=by rw[←Alt.avs_map];exact Alt.fins l
theorem bnd_finl {l:List Bnd}:AV.finL (l.map Bnd.av)=true:=by rw[←Bnd.avs_map];exact Bnd.fins l
theorem rhs_finl {l:List Rhs}:AV.finL (l.map Rhs.av)=true:=by rw[←Rhs.avs_map];exact Rhs.fins l
theorem chunk_42 {a b c d e f g h:AV}:chunk (.st 4) 2 [a,b,c,d,e,f,g,h]=ifk (AV.finL [a,b,c,d]&&AV.finL [e,f,g,h]) [.agg [a,b,c,d],.agg [e,f,g,h]]:=by
 show (if AV.finL [a,b,c,d]=true then ((if AV.finL [e,f,g,h]=true then _ else _):Option _).map _ else none)=_
 cases AV.finL [a,b,c,d]<;>cases AV.finL [e,f,g,h]<;>rfl
attribute [go_sem] frz_os chunk_42 ifk_t finL_n finL_c fin_s fin_nsl fin_slx fin_agg lst_fin' ty_finl pat_finl xp_finl alt_finl bnd_finl rhs_finl
theorem Loc.fin' {A0 A n0 N el v xs} (h:Loc A0 n0 A N el v xs) (B:Nat→Option (List AV)) (hB:∀ a,a<N→B a=A a):∃ B',(∀ n s M,Am.frz (n+2) v (wa s B M)=some (lst el xs,wa s B' M))∧Old n0 B' A0:=by
 obtain⟨d,h1,h2,h3,h4,h5⟩:=h
 have h6:Gr B N el v xs d:=h1.mono fun a ha=>⟨hB a (h1.lt ha),h1.lt ha⟩
 obtain⟨h0,⟨rfl,rfl,rfl⟩|⟨b,cs,rfl,j1,j2,j3,rfl⟩⟩:=id h6
 ·exact⟨B,fun _ _ _=>rfl,fun a ha=>(hB a (by omega)).trans (h3 a ha)⟩
 ·cases xs with
  | nil=>cases h5 rfl
  | cons x xs =>
   have hb:=h2 b rfl
   refine⟨upd B b none,fun n s M=>?_,fun i hi=>(upd_other (by omega)).trans ((hB i (by omega)).trans (h3 i hi))⟩
   have hch:=chunk_flat (x::xs) [] (fun y hy=>(h0 y hy).elem)
   rw[List.append_nil] at hch
   rw[Am.frz]
   show (match B b with|some cs=>_|none=>_)=_
   rw[j1]
   dsimp only
   rw[j2,scals_frz (flat_scal h0)]
   dsimp only
   rw[hch]
   rfl
theorem old_upd {n a:Nat} {x A B} (h:Old n A B) (hn:n≤a):Old n (upd A a x) B:=fun i hi=>(upd_other (by omega)).trans (h i hi)
theorem Loc.finf {A0 A n0 N el v xs} (h:Loc A0 n0 A N el v xs):∃ Bf:(Nat→Option (List AV))→(Nat→Option (List AV)),(∀ n s M,Am.frz (n+2) v (wa s A M)=some (lst el xs,wa s (Bf A) M))∧Old n0 (Bf A) A0∧(∀ n s M cs x,Am.frz (n+2) v (wa s (upd (upd A N cs) N x) M)=some (lst el xs,wa s (Bf (upd (upd A N cs) N x)) M))∧∀ cs x,Old n0 (Bf (upd (upd A N cs) N x)) A0:=by
 have hx:∀ (B:Nat→Option (List AV)),∃ B',(∀ a,a<N→B a=A a)→(∀ n s M,Am.frz (n+2) v (wa s B M)=some (lst el xs,wa s B' M))∧Old n0 B' A0:=fun B=>by
  by_cases hB:∀ a,a<N→B a=A a
  ·obtain⟨B',h1⟩:=h.fin' B hB;exact⟨B',fun _=>h1⟩
  ·exact⟨B,fun h=>(hB h).elim⟩
 have h2:∀ cs x a,a<N→(upd (upd A N cs) N x) a=A a:=fun cs x a ha=>by rw[upd_other (by omega),upd_other (by omega)]
 refine⟨fun B=>Classical.choose (hx B),?_,?_,fun n s M cs x=>?_,fun cs x=>?_⟩
 ·exact (Classical.choose_spec (hx A) fun _ _=>rfl).1
 ·exact (Classical.choose_spec (hx A) fun _ _=>rfl).2
 ·exact (Classical.choose_spec (hx _) (h2 cs x)).1 n s M
 ·exact (Classical.choose_spec (hx _) (h2 cs x)).2
theorem patapat_all:∀ n,PatL n∧ApatL n:=by
 intro n
 induction n with
 | zero=>exact⟨fun p s k ho h=>by omega,fun p s k ho h=>by omega⟩
 | succ n ih=>have h:=apat_step n ih.1;exact⟨pat_step _ h,h⟩
section
variable {s:St} {k:Nat} {p:PS}
theorem pat_w (ho:obj s k=some p.ob):W (C F0 X0 106 [.ref k 0] s) fun q=>∃ (p':PS) (r:Pat),q=(r.av,setOb s k p'.ob)∧PZ r.sz p p':=(patapat_all (p.m+1)).1 p s k ho (by omega)
theorem apat_w (ho:obj s k=some p.ob):W (C F0 X0 64 [.ref k 0] s) fun q=>∃ (p':PS) (r:Pat),q=(r.av,setOb s k p'.ob)∧PZ r.sz p p':=(patapat_all (p.m+1)).2 p s k ho (by omega)
end
abbrev TypL (n:Nat):Prop:=∀ (p:PS) (s:St) (k:Nat),obj s k=some p.ob→p.m<n→W (C F0 X0 126 [.ref k 0] s) fun q=>∃ (p':PS) (r:Ty),q=(r.av,setOb s k p'.ob)∧PZ r.sz p p'
abbrev AtypeL (n:Nat):Prop:=∀ (p:PS) (s:St) (k:Nat),obj s k=some p.ob→p.m<n→W (C F0 X0 101 [.ref k 0] s) fun q=>∃ (p':PS) (r:Ty),q=(r.av,setOb s k p'.ob)∧PZ r.sz p p'
theorem atype_step (n:Nat) (htyp:TypL n):AtypeL (n+1):=by
 intro p s k ho hn
 have hk:=obj_lt ho
 have hlv:=@PS.lv_le p
 rw[w_call (f:=101) rfl]
 simp only[go_sem,reduceCtorEq,↓reduceIte,nA,nB,nC,nD,nE,iA,iB,iC,iD,iE,iF,hk]
 repeat' (first
   | (refine W.ifc (fun d=>?_) (fun d=>?_)<;>(try have dl:=PS.is_lv d)<;>(try have dl:=PS.isk_lv d (by decide))<;>(try have dl:=a1 d)<;>(try have dl:=PS.peek_lv d (by decide))<;>(try have dm:=PS.m_ok d)<;>(try have dm:=PS.m_bad d)<;>simp only[go_sem,reduceCtorEq,↓reduceIte,nA,nB,nC,nD,nE,iA,iB,iC,iD,iE,iF,d,hk,Bool.true_or,Bool.false_or,Bool.false_and,Bool.true_and])
   | (refine W.step (is_w _ (by simp only[go_sem,hk,ho]<;>rfl)) ?_;rintro _ rfl;simp only[go_sem,reduceCtorEq,↓reduceIte,nA,nB,nC,nD,nE,iA,iB,iC,iD,iE,iF,hk])
   | (refine W.step (isk_w _ (by simp only[go_sem,hk,ho]<;>rfl)) ?_;rintro _ rfl;simp only[go_sem,reduceCtorEq,↓reduceIte,nA,nB,nC,nD,nE,iA,iB,iC,iD,iE,iF,hk])
   | (refine W.step (peek_w (by simp only[go_sem,hk,ho]<;>rfl)) ?_;rintro _ rfl;simp only[go_sem,reduceCtorEq,↓reduceIte,nA,nB,nC,nD,nE,iA,iB,iC,iD,iE,iF,hk])
   | (refine W.step (next_w (by simp only[go_sem,hk,ho]<;>rfl)) ?_;rintro _ ⟨p2,rfl,a1,a2,a3⟩;simp only[go_sem,reduceCtorEq,↓reduceIte,nA,nB,nC,nD,nE,iA,iB,iC,iD,iE,iF,hk])
   | (refine W.step (minus_w (by simp only[go_sem,hk,ho]<;>rfl)) ?_;rintro _ ⟨p2,rfl,a1,a2,a3⟩;simp only[go_sem,reduceCtorEq,↓reduceIte,nA,nB,nC,nD,nE,iA,iB,iC,iD,iE,iF,hk])
   | (refine W.step (plain_w (by simp only[go_sem,hk,ho]<;>rfl)) ?_;rintro _ ⟨p2,n2,l2,c2,rfl,a1,a2⟩;simp only[go_sem,reduceCtorEq,↓reduceIte,nA,nB,nC,nD,nE,iA,iB,iC,iD,iE,iF,hk])
   | (refine W.step (number_w (by simp only[go_sem,hk,ho]<;>rfl)) ?_;rintro _ ⟨p2,n2,l2,c2,rfl,a1,a2⟩;simp only[go_sem,reduceCtorEq,↓reduceIte,nA,nB,nC,nD,nE,iA,iB,iC,iD,iE,iF,hk])
   | (refine W.step (ahead_w _ _ (by simp only[go_sem,hk,ho]<;>rfl)) ?_;rintro _ ⟨b2,rfl,a1⟩;simp only[go_sem,reduceCtorEq,↓reduceIte,nA,nB,nC,nD,nE,iA,iB,iC,iD,iE,iF,hk])
   | (refine W.step (pattern_w (by simp only[go_sem,hk,ho]<;>rfl)) ?_;rintro _ ⟨b2,rfl,a1⟩;simp only[go_sem,reduceCtorEq,↓reduceIte,nA,nB,nC,nD,nE,iA,iB,iC,iD,iE,iF,hk])
   | (refine W.step (argument_w (by simp only[go_sem,hk,ho]<;>rfl)) ?_;rintro _ ⟨b2,rfl,a1⟩;simp only[go_sem,reduceCtorEq,↓reduceIte,nA,nB,nC,nD,nE,iA,iB,iC,iD,iE,iF,hk])
   | (refine W.step (atomic_w (by simp only[go_sem,hk,ho]<;>rfl)) ?_;rintro _ ⟨b2,rfl,a1⟩;simp only[go_sem,reduceCtorEq,↓reduceIte,nA,nB,nC,nD,nE,iA,iB,iC,iD,iE,iF,hk])
   | (refine W.step (operator_w (by simp only[go_sem,hk,ho]<;>rfl)) ?_;rintro _ ⟨b2,rfl,a1⟩;simp only[go_sem,reduceCtorEq,↓reduceIte,nA,nB,nC,nD,nE,iA,iB,iC,iD,iE,iF,hk])
   | (refine W.step (text_w _ (by simp only[go_sem,hk,ho]<;>rfl)) ?_;rintro _ ⟨p2,x2,rfl,a1,a2,a3⟩;simp only[go_sem,reduceCtorEq,↓reduceIte,nA,nB,nC,nD,nE,iA,iB,iC,iD,iE,iF,hk])
   | (refine W.step (want_w _ (by decide) (by simp only[go_sem,hk,ho]<;>rfl)) ?_;rintro _ ⟨p2,x2,rfl,a1,a2,a3⟩;simp only[go_sem,reduceCtorEq,↓reduceIte,nA,nB,nC,nD,nE,iA,iB,iC,iD,iE,iF,hk])
   | (refine W.step (fails_w _ (by simp only[go_sem,hk,ho]<;>rfl)) ?_;rintro _ ⟨p2,rfl,a1,a2,a3,a4⟩;simp only[go_sem,reduceCtorEq,↓reduceIte,nA,nB,nC,nD,nE,iA,iB,iC,iD,iE,iF,hk])
   | (refine W.step (htyp _ _ _ (by simp only[go_sem,hk,ho]<;>rfl) (by omega)) ?_;rintro _ ⟨p2,r2,rfl,a1,a2,a3⟩;simp only[go_sem,reduceCtorEq,↓reduceIte,nA,nB,nC,nD,nE,iA,iB,iC,iD,iE,iF,hk]))
 all_goals first
  | exact⟨_,Ty.mk _ _ _ [],rfl,(by repeat (first|exact PS.le_refl|assumption|(apply PS.le_trans;assumption))),by omega,.inl (Nat.le_refl _)⟩
  | exact⟨_,_,rfl,(by repeat (first|exact PS.le_refl|assumption|(apply PS.le_trans;assumption))),by omega,by omega⟩
theorem typ_step (n:Nat) (hatype:AtypeL n) (htyp:∀ m,m<n→TypL m):TypL n:=by
 intro p s k ho hn
 have hk:=obj_lt ho
 have hlv:=@PS.lv_le p
 rw[w_call (f:=126) rfl]
 simp only[go_sem,reduceCtorEq,↓reduceIte,nA,nB,nC,nD,nE,iA,iB,iC,iD,iE,iF,hk]
 repeat' (first
   | (refine W.ifc (fun d=>?_) (fun d=>?_)<;>(try have dl:=PS.is_lv d)<;>(try have dl:=PS.isk_lv d (by decide))<;>(try have dl:=a1 d)<;>(try have dl:=PS.peek_lv d (by decide))<;>(try have dm:=PS.m_ok d)<;>(try have dm:=PS.m_bad d)<;>simp only[go_sem,reduceCtorEq,↓reduceIte,nA,nB,nC,nD,nE,iA,iB,iC,iD,iE,iF,d,hk,Bool.true_or,Bool.false_or,Bool.false_and,Bool.true_and])
   | (refine W.step (is_w _ (by simp only[go_sem,hk,ho]<;>rfl)) ?_;rintro _ rfl;simp only[go_sem,reduceCtorEq,↓reduceIte,nA,nB,nC,nD,nE,iA,iB,iC,iD,iE,iF,hk])
   | (refine W.step (isk_w _ (by simp only[go_sem,hk,ho]<;>rfl)) ?_;rintro _ rfl;simp only[go_sem,reduceCtorEq,↓reduceIte,nA,nB,nC,nD,nE,iA,iB,iC,iD,iE,iF,hk])
   | (refine W.step (peek_w (by simp only[go_sem,hk,ho]<;>rfl)) ?_;rintro _ rfl;simp only[go_sem,reduceCtorEq,↓reduceIte,nA,nB,nC,nD,nE,iA,iB,iC,iD,iE,iF,hk])
   | (refine W.step (next_w (by simp only[go_sem,hk,ho]<;>rfl)) ?_;rintro _ ⟨p2,rfl,a1,a2,a3⟩;simp only[go_sem,reduceCtorEq,↓reduceIte,nA,nB,nC,nD,nE,iA,iB,iC,iD,iE,iF,hk])
   | (refine W.step (minus_w (by simp only[go_sem,hk,ho]<;>rfl)) ?_;rintro _ ⟨p2,rfl,a1,a2,a3⟩;simp only[go_sem,reduceCtorEq,↓reduceIte,nA,nB,nC,nD,nE,iA,iB,iC,iD,iE,iF,hk])
   | (refine W.step (plain_w (by simp only[go_sem,hk,ho]<;>rfl)) ?_;rintro _ ⟨p2,n2,l2,c2,rfl,a1,a2⟩;simp only[go_sem,reduceCtorEq,↓reduceIte,nA,nB,nC,nD,nE,iA,iB,iC,iD,iE,iF,hk])
   | (refine W.step (number_w (by simp only[go_sem,hk,ho]<;>rfl)) ?_;rintro _ ⟨p2,n2,l2,c2,rfl,a1,a2⟩;simp only[go_sem,reduceCtorEq,↓reduceIte,nA,nB,nC,nD,nE,iA,iB,iC,iD,iE,iF,hk])
   | (refine W.step (ahead_w _ _ (by simp only[go_sem,hk,ho]<;>rfl)) ?_;rintro _ ⟨b2,rfl,a1⟩;simp only[go_sem,reduceCtorEq,↓reduceIte,nA,nB,nC,nD,nE,iA,iB,iC,iD,iE,iF,hk])
   | (refine W.step (pattern_w (by simp only[go_sem,hk,ho]<;>rfl)) ?_;rintro _ ⟨b2,rfl,a1⟩;simp only[go_sem,reduceCtorEq,↓reduceIte,nA,nB,nC,nD,nE,iA,iB,iC,iD,iE,iF,hk])
   | (refine W.step (argument_w (by simp only[go_sem,hk,ho]<;>rfl)) ?_;rintro _ ⟨b2,rfl,a1⟩;simp only[go_sem,reduceCtorEq,↓reduceIte,nA,nB,nC,nD,nE,iA,iB,iC,iD,iE,iF,hk])
   | (refine W.step (atomic_w (by simp only[go_sem,hk,ho]<;>rfl)) ?_;rintro _ ⟨b2,rfl,a1⟩;simp only[go_sem,reduceCtorEq,↓reduceIte,nA,nB,nC,nD,nE,iA,iB,iC,iD,iE,iF,hk])
   | (refine W.step (operator_w (by simp only[go_sem,hk,ho]<;>rfl)) ?_;rintro _ ⟨b2,rfl,a1⟩;simp only[go_sem,reduceCtorEq,↓reduceIte,nA,nB,nC,nD,nE,iA,iB,iC,iD,iE,iF,hk])
   | (refine W.step (text_w _ (by simp only[go_sem,hk,ho]<;>rfl)) ?_;rintro _ ⟨p2,x2,rfl,a1,a2,a3⟩;simp only[go_sem,reduceCtorEq,↓reduceIte,nA,nB,nC,nD,nE,iA,iB,iC,iD,iE,iF,hk])
   | (refine W.step (want_w _ (by decide) (by simp only[go_sem,hk,ho]<;>rfl)) ?_;rintro _ ⟨p2,x2,rfl,a1,a2,a3⟩;simp only[go_sem,reduceCtorEq,↓reduceIte,nA,nB,nC,nD,nE,iA,iB,iC,iD,iE,iF,hk])
   | (refine W.step (fails_w _ (by simp only[go_sem,hk,ho]<;>rfl)) ?_;rintro _ ⟨p2,rfl,a1,a2,a3,a4⟩;simp only[go_sem,reduceCtorEq,↓reduceIte,nA,nB,nC,nD,nE,iA,iB,iC,iD,iE,iF,hk])
   | (refine W.step (hatype _ _ _ (by simp only[go_sem,hk,ho]<;>rfl) (by omega)) ?_;rintro _ ⟨p2,r2,rfl,a1,a2,a3⟩;simp only[go_sem,reduceCtorEq,↓reduceIte,nA,nB,nC,nD,nE,iA,iB,iC,iD,iE,iF,hk])
   | (refine W.step (htyp (n - 1) (by omega) _ _ _ (by simp only[go_sem,hk,ho]<;>rfl) (by omega)) ?_;rintro _ ⟨p2,r2,rfl,a1,a2,a3⟩;simp only[go_sem,reduceCtorEq,↓reduceIte,nA,nB,nC,nD,nE,iA,iB,iC,iD,iE,iF,hk]))
 ·obtain⟨l1,hl1⟩:∃ l1:List Ob,l1=[.cells [.i .i64 0,.i .i64 0,.s [],.nsl]]:=⟨_,rfl⟩
  have hmle:=@PS.m_le p2
  refine W.step (W.loop (L:=l126_0) (Q:=fun q=>∃ (pc:PS) (xs:List Ty) (v:AV) (A:Nat→Option (List AV)) (N:Nat),q=(.exit 0,[(0,.ref k 0),(2,.ref (cnt s) 0),(3,.ref (cnt s+1) 0),(13,.b false)],wa (ex (setOb s k pc.ob) (l1++[.cells [.i .i64 2,.i .i64 0,.s p.peek.text,v]])) A N)∧Loc s.arr s.nxt A N (.st 4) v (xs.map Ty.av)∧p2.le pc∧(xs.map Ty.sz).sum+20*pc.m≤20*p2.m) rfl (fun i e t=>∃ (pc:PS) (xs:List Ty) (v:AV) (A:Nat→Option (List AV)) (N:Nat),i=pc.m∧e=[(0,.ref k 0),(2,.ref (cnt s) 0),(3,.ref (cnt s+1) 0)]∧t=wa (ex (setOb s k pc.ob) (l1++[.cells [.i .i64 2,.i .i64 0,.s p.peek.text,v]])) A N∧Loc s.arr s.nxt A N (.st 4) v (xs.map Ty.av)∧p2.le pc∧(xs.map Ty.sz).sum+20*pc.m≤20*p2.m) ?_ _ _ _ ⟨p2,[],.nsl,s.arr,s.nxt,rfl,rfl,by rw[hl1];rfl,Loc.nil,PS.le_refl,by simp⟩) ?_
  ·rintro i e t ⟨pc,xs,v,A,N,rfl,rfl,rfl,hL,hle,hsum⟩
   simp only[go_sem,reduceCtorEq,↓reduceIte,nA,nB,nC,nD,nE,iA,iB,iC,iD,iE,iF,hl1,hk]
   refine W.step (atomic_w (p:=pc) (by simp only[go_sem,hk,ho]<;>rfl)) ?_
   rintro _ ⟨b,rfl,hb⟩
   simp only[go_sem,reduceCtorEq,↓reduceIte,nA,nB,nC,nD,nE,iA,iB,iC,iD,iE,iF,hl1,hk]
   cases b with
   | false =>
    simp only[go_sem,reduceCtorEq,↓reduceIte,nA,nB,nC,nD,nE,iA,iB,iC,iD,iE,iF,hl1,hk]
    exact⟨pc,xs,v,A,N,rfl,hL,hle,hsum⟩
   | true =>
    have dl:=hb rfl
    have hlv2:=@PS.lv_m pc dl
    simp only[go_sem,reduceCtorEq,↓reduceIte,nA,nB,nC,nD,nE,iA,iB,iC,iD,iE,iF,hl1,hk]
    refine W.step (hatype pc _ _ (by simp only[go_sem,hk,ho]<;>rfl) (by omega)) ?_
    rintro _ ⟨p3,r3,rfl,a1,a2,a3⟩
    have hlen:=Ty.szs_len xs
    obtain⟨v',A',N',k1,k2⟩:=hL.push (y:=r3.av) (cy:=r3.av.cells) rfl r3.ele (by simp;unfold most;omega)
    rw[Ty.cells_eq] at k1
    have e1:xs.map Ty.av++[r3.av]=(xs++[r3]).map Ty.av:=by simp
    rw[e1] at k2
    have hone:v'.cells=[v']:=by obtain⟨d,h,-⟩:=k2;exact h.one
    simp only[go_sem,reduceCtorEq,↓reduceIte,nA,nB,nC,nD,nE,iA,iB,iC,iD,iE,iF,hl1,hk,hL.low,k1,k2.low,hone]
    exact⟨p3.m,by omega,p3,xs++[r3],v',A',N',rfl,rfl,k2,PS.le_trans hle a1,by simp;omega⟩
  ·rintro q ⟨pc,xs,v,A,N,rfl,hL,hle,hsum⟩
   obtain⟨Bf,k1,k2,k3,k4⟩:=hL.finf
   have hone:v.cells=[v]:=by obtain⟨d,h,-⟩:=hL;exact h.one
   have hsz:=Ty.szs_sum xs
   simp only[go_sem,reduceCtorEq,↓reduceIte,nA,nB,nC,nD,nE,iA,iB,iC,iD,iE,iF,hl1,hk,hL.low,hone]
   repeat' (first
   | (refine W.ifc (fun d=>?_) (fun d=>?_)<;>(try have dl:=PS.is_lv d)<;>(try have dl:=PS.isk_lv d (by decide))<;>(try have dl:=a1 d)<;>(try have dl:=PS.peek_lv d (by decide))<;>(try have dm:=PS.m_ok d)<;>(try have dm:=PS.m_bad d)<;>simp only[go_sem,reduceCtorEq,↓reduceIte,nA,nB,nC,nD,nE,iA,iB,iC,iD,iE,iF,d,hk,Bool.true_or,Bool.false_or,Bool.false_and,Bool.true_and,hL.low,hone,k1,k3])
   | (refine W.step (is_w _ (by simp only[go_sem,hk,ho]<;>rfl)) ?_;rintro _ rfl;simp only[go_sem,reduceCtorEq,↓reduceIte,nA,nB,nC,nD,nE,iA,iB,iC,iD,iE,iF,hk,hL.low,hone,k1,k3])
   | (refine W.step (isk_w _ (by simp only[go_sem,hk,ho]<;>rfl)) ?_;rintro _ rfl;simp only[go_sem,reduceCtorEq,↓reduceIte,nA,nB,nC,nD,nE,iA,iB,iC,iD,iE,iF,hk,hL.low,hone,k1,k3])
   | (refine W.step (peek_w (by simp only[go_sem,hk,ho]<;>rfl)) ?_;rintro _ rfl;simp only[go_sem,reduceCtorEq,↓reduceIte,nA,nB,nC,nD,nE,iA,iB,iC,iD,iE,iF,hk,hL.low,hone,k1,k3])
   | (refine W.step (next_w (by simp only[go_sem,hk,ho]<;>rfl)) ?_;rintro _ ⟨p2,rfl,a1,a2,a3⟩;simp only[go_sem,reduceCtorEq,↓reduceIte,nA,nB,nC,nD,nE,iA,iB,iC,iD,iE,iF,hk,hL.low,hone,k1,k3])
   | (refine W.step (minus_w (by simp only[go_sem,hk,ho]<;>rfl)) ?_;rintro _ ⟨p2,rfl,a1,a2,a3⟩;simp only[go_sem,reduceCtorEq,↓reduceIte,nA,nB,nC,nD,nE,iA,iB,iC,iD,iE,iF,hk,hL.low,hone,k1,k3])
   | (refine W.step (plain_w (by simp only[go_sem,hk,ho]<;>rfl)) ?_;rintro _ ⟨p2,n2,l2,c2,rfl,a1,a2⟩;simp only[go_sem,reduceCtorEq,↓reduceIte,nA,nB,nC,nD,nE,iA,iB,iC,iD,iE,iF,hk,hL.low,hone,k1,k3])
   | (refine W.step (number_w (by simp only[go_sem,hk,ho]<;>rfl)) ?_;rintro _ ⟨p2,n2,l2,c2,rfl,a1,a2⟩;simp only[go_sem,reduceCtorEq,↓reduceIte,nA,nB,nC,nD,nE,iA,iB,iC,iD,iE,iF,hk,hL.low,hone,k1,k3])
   | (refine W.step (ahead_w _ _ (by simp only[go_sem,hk,ho]<;>rfl)) ?_;rintro _ ⟨b2,rfl,a1⟩;simp only[go_sem,reduceCtorEq,↓reduceIte,nA,nB,nC,nD,nE,iA,iB,iC,iD,iE,iF,hk,hL.low,hone,k1,k3])
   | (refine W.step (pattern_w (by simp only[go_sem,hk,ho]<;>rfl)) ?_;rintro _ ⟨b2,rfl,a1⟩;simp only[go_sem,reduceCtorEq,↓reduceIte,nA,nB,nC,nD,nE,iA,iB,iC,iD,iE,iF,hk,hL.low,hone,k1,k3])
   | (refine W.step (argument_w (by simp only[go_sem,hk,ho]<;>rfl)) ?_;rintro _ ⟨b2,rfl,a1⟩;simp only[go_sem,reduceCtorEq,↓reduceIte,nA,nB,nC,nD,nE,iA,iB,iC,iD,iE,iF,hk,hL.low,hone,k1,k3])
   | (refine W.step (atomic_w (by simp only[go_sem,hk,ho]<;>rfl)) ?_;rintro _ ⟨b2,rfl,a1⟩;simp only[go_sem,reduceCtorEq,↓reduceIte,nA,nB,nC,nD,nE,iA,iB,iC,iD,iE,iF,hk,hL.low,hone,k1,k3])
   | (refine W.step (operator_w (by simp only[go_sem,hk,ho]<;>rfl)) ?_;rintro _ ⟨b2,rfl,a1⟩;simp only[go_sem,reduceCtorEq,↓reduceIte,nA,nB,nC,nD,nE,iA,iB,iC,iD,iE,iF,hk,hL.low,hone,k1,k3])
   | (refine W.step (text_w _ (by simp only[go_sem,hk,ho]<;>rfl)) ?_;rintro _ ⟨p2,x2,rfl,a1,a2,a3⟩;simp only[go_sem,reduceCtorEq,↓reduceIte,nA,nB,nC,nD,nE,iA,iB,iC,iD,iE,iF,hk,hL.low,hone,k1,k3])
   | (refine W.step (want_w _ (by decide) (by simp only[go_sem,hk,ho]<;>rfl)) ?_;rintro _ ⟨p2,x2,rfl,a1,a2,a3⟩;simp only[go_sem,reduceCtorEq,↓reduceIte,nA,nB,nC,nD,nE,iA,iB,iC,iD,iE,iF,hk,hL.low,hone,k1,k3])
   | (refine W.step (fails_w _ (by simp only[go_sem,hk,ho]<;>rfl)) ?_;rintro _ ⟨p2,rfl,a1,a2,a3,a4⟩;simp only[go_sem,reduceCtorEq,↓reduceIte,nA,nB,nC,nD,nE,iA,iB,iC,iD,iE,iF,hk,hL.low,hone,k1,k3])
   | (refine W.step (htyp (n - 1) (by omega) _ _ _ (by simp only[go_sem,hk,ho]<;>rfl) (by omega)) ?_;rintro _ ⟨p2,r2,rfl,a1,a2,a3⟩;simp only[go_sem,reduceCtorEq,↓reduceIte,nA,nB,nC,nD,nE,iA,iB,iC,iD,iE,iF,hk,hL.low,hone,k1,k3]))
   ·refine⟨_,Ty.mk 3 0 [] [Ty.mk 2 0 p.peek.text xs,_],by rw[back_ps (k4 _ _) (by simp[alow_agg,alow_tup,alowL_cons,alowL_nil,alow_i,alow_s,alow_b,alow_sl,alow_nsl,lst_alow]),←Ty.avs_map];rfl,(by repeat (first|exact PS.le_refl|assumption|(apply PS.le_trans;assumption))),by omega,.inr ?_⟩
    show 1+(1+Ty.szs xs+(Ty.sz _+0))+_+5≤_
    omega
   ·refine⟨_,Ty.mk 2 0 p.peek.text xs,by rw[back_ps k2 (by simp[alow_agg,alow_tup,alowL_cons,alowL_nil,alow_i,alow_s,alow_b,alow_sl,alow_nsl,lst_alow]),←Ty.avs_map];rfl,(by repeat (first|exact PS.le_refl|assumption|(apply PS.le_trans;assumption))),by omega,?_⟩
    show 1+Ty.szs xs≤1∨1+Ty.szs xs+_+5≤_
    omega
 ·refine⟨_,Ty.mk 3 0 [] [_,_],by rw[back_ps (by repeat (first|exact Old.refl|assumption|(refine old_upd ?_ (by omega)))) (by simp[alow_agg,alow_tup,alowL_cons,alowL_nil,alow_i,alow_s,alow_b,alow_sl,alow_nsl,lst_alow])];rfl,(by repeat (first|exact PS.le_refl|assumption|(apply PS.le_trans;assumption))),by omega,.inr ?_⟩
  show 1+(Ty.sz _+(Ty.sz _+0))+_+5≤_
  omega
 all_goals first
  | exact⟨_,Ty.mk _ _ _ [],rfl,(by repeat (first|exact PS.le_refl|assumption|(apply PS.le_trans;assumption))),by omega,.inl (Nat.le_refl _)⟩
  | exact⟨_,_,rfl,(by repeat (first|exact PS.le_refl|assumption|(apply PS.le_trans;assumption))),by omega,by omega⟩
theorem typ_all:∀ n,TypL n∧AtypeL n:=by
 intro n
 induction n using Nat.strongRecOn with
 | _ n ih =>
  cases n with
  | zero=>exact⟨fun p s k ho h=>by omega,fun p s k ho h=>by omega⟩
  | succ n =>
   have h:=atype_step n (ih n (Nat.lt_succ_self n)).1
   exact⟨typ_step _ h fun m hm=>(ih m hm).1,h⟩
section
variable {s:St} {k:Nat} {p:PS}
theorem typ_w (ho:obj s k=some p.ob):W (C F0 X0 126 [.ref k 0] s) fun q=>∃ (p':PS) (r:Ty),q=(r.av,setOb s k p'.ob)∧PZ r.sz p p':=(typ_all (p.m+1)).1 p s k ho (by omega)
theorem atype_w (ho:obj s k=some p.ob):W (C F0 X0 101 [.ref k 0] s) fun q=>∃ (p':PS) (r:Ty),q=(r.av,setOb s k p'.ob)∧PZ r.sz p p':=(typ_all (p.m+1)).2 p s k ho (by omega)
end
end Go.Am
namespace Go.Am
open Go
def Loc2 (A0:Nat→Option (List AV)) (n0:Nat) (A:Nat→Option (List AV)) (N:Nat) (e1:El) (v1:AV) (xs:List AV) (e2:El) (v2:AV) (ys:List AV):Prop :=
 ∃ d1 d2,Gr A N e1 v1 xs d1∧Gr A N e2 v2 ys d2∧(∀ a,d1=some a→n0≤a∧d2≠some a)∧(∀ a,d2=some a→n0≤a)∧Old n0 A A0∧n0≤N∧(xs=[]→v1=.nsl)∧(ys=[]→v2=.nsl)
section
variable {A0 A:Nat→Option (List AV)} {n0 N:Nat} {e1 e2:El} {v1 v2:AV} {xs ys:List AV}
theorem Loc2.nil:Loc2 A n0 A n0 e1 .nsl [] e2 .nsl []:=⟨none,none,Gr.nil,Gr.nil,(fun a h=>nomatch h),(fun a h=>nomatch h),Old.refl,Nat.le_refl _,fun _=>rfl,fun _=>rfl⟩
theorem Loc2.swap (h:Loc2 A0 n0 A N e1 v1 xs e2 v2 ys):Loc2 A0 n0 A N e2 v2 ys e1 v1 xs:=by
 obtain⟨d1,d2,h1,h2,h3,h4,h5,h6,h7,h8⟩:=h
 exact⟨d2,d1,h2,h1,fun a ha=>⟨h4 a ha,fun h=>(h3 a h).2 ha⟩,fun a ha=>(h3 a ha).1,h5,h6,h8,h7⟩
theorem Loc2.low1 (h:Loc2 A0 n0 A N e1 v1 xs e2 v2 ys) (n:Nat):v1.low n=true:=by obtain⟨d1,d2,h1,-⟩:=h;exact h1.low n
theorem Loc2.low2 (h:Loc2 A0 n0 A N e1 v1 xs e2 v2 ys) (n:Nat):v2.low n=true:=h.swap.low1 n
theorem Loc2.one1 (h:Loc2 A0 n0 A N e1 v1 xs e2 v2 ys):v1.cells=[v1]:=by obtain⟨d1,d2,h1,-⟩:=h;exact h1.one
theorem Loc2.one2 (h:Loc2 A0 n0 A N e1 v1 xs e2 v2 ys):v2.cells=[v2]:=h.swap.one1
theorem Loc2.len1 (h:Loc2 A0 n0 A N e1 v1 xs e2 v2 ys):alen false v1=some (.i .i64 (xs.length:Nat)):=by obtain⟨d1,d2,h1,-⟩:=h;exact h1.len
theorem Loc2.push1 {y:AV} {cy:List AV} (h:Loc2 A0 n0 A N e1 v1 xs e2 v2 ys) (hc:y.cells=cy) (hy:Ele e1 y) (hm:xs.length+1≤most) :
  ∃ v' A' N',(∀ u,agrow (newAr (wa u A N) cy) e1 1 cy v1=some (v',wa u A' N'))∧Loc2 A0 n0 A' N' e1 v' (xs++[y]) e2 v2 ys:=by
 obtain⟨d1,d2,h1,h2,h3,h4,h5,h6,h7,h8⟩:=h
 obtain⟨v',A',N',d',k1,k2,k3,k4,k5,k6⟩:=h1.push' cy hc hy hm
 refine⟨v',A',N',k1,d',d2,k2,h2.mono fun a ha=>⟨k4 a (h2.lt ha) fun h=>(h3 a h).2 ha,Nat.lt_of_lt_of_le (h2.lt ha) k3⟩,fun a ha=>⟨Nat.le_trans h6 (k5 a ha),fun h=>by have:=h2.lt h;have:=k5 a ha;omega⟩,h4,fun a ha=>(k4 a (by omega) fun h=>by have:=(h3 a h).1;omega).trans (h5 a ha),by omega,fun h=>by simp at h,h8⟩
theorem Loc2.push2 {y:AV} {cy:List AV} (h:Loc2 A0 n0 A N e1 v1 xs e2 v2 ys) (hc:y.cells=cy) (hy:Ele e2 y) (hm:ys.length+1≤most) :
  ∃ v' A' N',(∀ u,agrow (newAr (wa u A N) cy) e2 1 cy v2=some (v',wa u A' N'))∧Loc2 A0 n0 A' N' e1 v1 xs e2 v' (ys++[y]):=by
 obtain⟨v',A',N',h1,h2⟩:=h.swap.push1 hc hy hm
 exact⟨v',A',N',h1,h2.swap⟩
theorem Loc2.fin (h:Loc2 A0 n0 A N e1 v1 xs e2 v2 ys):∃ A1 A2,(∀ n s M,Am.frz (n+2) v1 (wa s A M)=some (lst e1 xs,wa s A1 M))∧(∀ n s M,Am.frz (n+2) v2 (wa s A1 M)=some (lst e2 ys,wa s A2 M))∧Old n0 A2 A0:=by
 obtain⟨d1,d2,h1,h2,h3,h4,h5,h6,h7,h8⟩:=h
 have k:∀ {A:Nat→Option (List AV)} {el v xs d},Gr A N el v xs d→(xs=[]→v=.nsl)→∃ A',(∀ n s M,Am.frz (n+2) v (wa s A M)=some (lst el xs,wa s A' M))∧(∀ a,d≠some a→A' a=A a):=by
  intro A el v xs d h hne
  obtain⟨h0,⟨rfl,rfl,rfl⟩|⟨b,cs,rfl,j1,j2,j3,rfl⟩⟩:=id h
  ·exact⟨A,fun _ _ _=>rfl,fun _ _=>rfl⟩
  ·cases xs with
   | nil=>cases hne rfl
   | cons x xs =>
    refine⟨upd A b none,fun n s M=>?_,fun i hi=>upd_other (fun h=>hi (by rw[h]))⟩
    have hch:=chunk_flat (x::xs) [] (fun y hy=>(h0 y hy).elem)
    rw[List.append_nil] at hch
    rw[Am.frz]
    show (match A b with|some cs=>_|none=>_)=_
    rw[j1]
    dsimp only
    rw[j2,scals_frz (flat_scal h0)]
    dsimp only
    rw[hch]
    rfl
 obtain⟨A1,k1,k2⟩:=k h1 h7
 have h2':Gr A1 N e2 v2 ys d2:=h2.mono fun a ha=>⟨k2 a fun h=>(h3 a h).2 ha,h2.lt ha⟩
 obtain⟨A2,k3,k4⟩:=k h2' h8
 exact⟨A1,A2,k1,k3,fun a ha=>(k4 a fun h=>by have:=h4 a h;omega).trans ((k2 a fun h=>by have:=(h3 a h).1;omega).trans (h5 a ha))⟩
end
section
variable {s:St} {k:Nat} {p:PS}
theorem constr_w (ho:obj s k=some p.ob):W (C F0 X0 62 [.ref k 0] s) fun q=>∃ (p':PS) (r:Constr),q=(r.av,setOb s k p'.ob)∧PZ r.sz p p':=by
 have hk:=obj_lt ho
 have hlv:=@PS.lv_le p
 rw[w_call (f:=62) rfl]
 simp only[go_sem,reduceCtorEq,↓reduceIte,nA,nB,nC,nD,nE,iA,iB,iC,iD,iE,iF,hk]
 repeat' (first
   | (refine W.ifc (fun d=>?_) (fun d=>?_)<;>(try have dl:=PS.is_lv d)<;>(try have dl:=PS.isk_lv d (by decide))<;>(try have dl:=a1 d)<;>(try have dl:=PS.peek_lv d (by decide))<;>(try have dm:=PS.m_ok d)<;>(try have dm:=PS.m_bad d)<;>simp only[go_sem,reduceCtorEq,↓reduceIte,nA,nB,nC,nD,nE,iA,iB,iC,iD,iE,iF,d,hk,Bool.true_or,Bool.false_or,Bool.false_and,Bool.true_and])
   | (refine W.step (is_w _ (by simp only[go_sem,hk,ho]<;>rfl)) ?_;rintro _ rfl;simp only[go_sem,reduceCtorEq,↓reduceIte,nA,nB,nC,nD,nE,iA,iB,iC,iD,iE,iF,hk])
   | (refine W.step (isk_w _ (by simp only[go_sem,hk,ho]<;>rfl)) ?_;rintro _ rfl;simp only[go_sem,reduceCtorEq,↓reduceIte,nA,nB,nC,nD,nE,iA,iB,iC,iD,iE,iF,hk])
   | (refine W.step (peek_w (by simp only[go_sem,hk,ho]<;>rfl)) ?_;rintro _ rfl;simp only[go_sem,reduceCtorEq,↓reduceIte,nA,nB,nC,nD,nE,iA,iB,iC,iD,iE,iF,hk])
   | (refine W.step (next_w (by simp only[go_sem,hk,ho]<;>rfl)) ?_;rintro _ ⟨p2,rfl,a1,a2,a3⟩;simp only[go_sem,reduceCtorEq,↓reduceIte,nA,nB,nC,nD,nE,iA,iB,iC,iD,iE,iF,hk])
   | (refine W.step (minus_w (by simp only[go_sem,hk,ho]<;>rfl)) ?_;rintro _ ⟨p2,rfl,a1,a2,a3⟩;simp only[go_sem,reduceCtorEq,↓reduceIte,nA,nB,nC,nD,nE,iA,iB,iC,iD,iE,iF,hk])
   | (refine W.step (plain_w (by simp only[go_sem,hk,ho]<;>rfl)) ?_;rintro _ ⟨p2,n2,l2,c2,rfl,a1,a2⟩;simp only[go_sem,reduceCtorEq,↓reduceIte,nA,nB,nC,nD,nE,iA,iB,iC,iD,iE,iF,hk])
   | (refine W.step (number_w (by simp only[go_sem,hk,ho]<;>rfl)) ?_;rintro _ ⟨p2,n2,l2,c2,rfl,a1,a2⟩;simp only[go_sem,reduceCtorEq,↓reduceIte,nA,nB,nC,nD,nE,iA,iB,iC,iD,iE,iF,hk])
   | (refine W.step (ahead_w _ _ (by simp only[go_sem,hk,ho]<;>rfl)) ?_;rintro _ ⟨b2,rfl,a1⟩;simp only[go_sem,reduceCtorEq,↓reduceIte,nA,nB,nC,nD,nE,iA,iB,iC,iD,iE,iF,hk])
   | (refine W.step (pattern_w (by simp only[go_sem,hk,ho]<;>rfl)) ?_;rintro _ ⟨b2,rfl,a1⟩;simp only[go_sem,reduceCtorEq,↓reduceIte,nA,nB,nC,nD,nE,iA,iB,iC,iD,iE,iF,hk])
   | (refine W.step (argument_w (by simp only[go_sem,hk,ho]<;>rfl)) ?_;rintro _ ⟨b2,rfl,a1⟩;simp only[go_sem,reduceCtorEq,↓reduceIte,nA,nB,nC,nD,nE,iA,iB,iC,iD,iE,iF,hk])
   | (refine W.step (atomic_w (by simp only[go_sem,hk,ho]<;>rfl)) ?_;rintro _ ⟨b2,rfl,a1⟩;simp only[go_sem,reduceCtorEq,↓reduceIte,nA,nB,nC,nD,nE,iA,iB,iC,iD,iE,iF,hk])
   | (refine W.step (operator_w (by simp only[go_sem,hk,ho]<;>rfl)) ?_;rintro _ ⟨b2,rfl,a1⟩;simp only[go_sem,reduceCtorEq,↓reduceIte,nA,nB,nC,nD,nE,iA,iB,iC,iD,iE,iF,hk])
   | (refine W.step (text_w _ (by simp only[go_sem,hk,ho]<;>rfl)) ?_;rintro _ ⟨p2,x2,rfl,a1,a2,a3⟩;simp only[go_sem,reduceCtorEq,↓reduceIte,nA,nB,nC,nD,nE,iA,iB,iC,iD,iE,iF,hk])
   | (refine W.step (want_w _ (by decide) (by simp only[go_sem,hk,ho]<;>rfl)) ?_;rintro _ ⟨p2,x2,rfl,a1,a2,a3⟩;simp only[go_sem,reduceCtorEq,↓reduceIte,nA,nB,nC,nD,nE,iA,iB,iC,iD,iE,iF,hk])
   | (refine W.step (fails_w _ (by simp only[go_sem,hk,ho]<;>rfl)) ?_;rintro _ ⟨p2,rfl,a1,a2,a3,a4⟩;simp only[go_sem,reduceCtorEq,↓reduceIte,nA,nB,nC,nD,nE,iA,iB,iC,iD,iE,iF,hk]))
 ·obtain⟨l1,hl1⟩:∃ l1:List Ob,l1=[.cells [.s [],.nsl,.i .i64 0,.i .i64 0],.cells [.i .i64 x2.kind,.s x2.text,.i .i64 x2.n,.i .i64 (x2.line:Nat),.i .i64 (x2.col:Nat),.b x2.made]]:=⟨_,rfl⟩
  have hmle:=@PS.m_le p2
  refine W.step (W.loop (L:=l62_0) (Q:=fun q=>∃ (pc:PS) (xs:List Ty) (v:AV) (A:Nat→Option (List AV)) (N:Nat),q=(.exit 0,[(0,.ref k 0),(2,.ref (cnt s) 0),(4,.ref (cnt s+2) 0),(13,.b false)],wa (ex (setOb s k pc.ob) (l1++[.cells [.s x2.text,v,.i .i64 (x2.line:Nat),.i .i64 (x2.col:Nat)]])) A N)∧Loc s.arr s.nxt A N (.st 4) v (xs.map Ty.av)∧p2.le pc∧(xs.map Ty.sz).sum+20*pc.m≤20*p2.m) rfl (fun i e t=>∃ (pc:PS) (xs:List Ty) (v:AV) (A:Nat→Option (List AV)) (N:Nat),i=pc.m∧e=[(0,.ref k 0),(2,.ref (cnt s) 0),(4,.ref (cnt s+2) 0)]∧t=wa (ex (setOb s k pc.ob) (l1++[.cells [.s x2.text,v,.i .i64 (x2.line:Nat),.i .i64 (x2.col:Nat)]])) A N∧Loc s.arr s.nxt A N (.st 4) v (xs.map Ty.av)∧p2.le pc∧(xs.map Ty.sz).sum+20*pc.m≤20*p2.m) ?_ _ _ _ ⟨p2,[],.nsl,s.arr,s.nxt,rfl,rfl,by rw[hl1];rfl,Loc.nil,PS.le_refl,by simp⟩) ?_
  ·rintro i e t ⟨pc,xs,v,A,N,rfl,rfl,rfl,hL,hle,hsum⟩
   simp only[go_sem,reduceCtorEq,↓reduceIte,nA,nB,nC,nD,nE,iA,iB,iC,iD,iE,iF,hl1,hk]
   refine W.step (atomic_w (p:=pc) (by simp only[go_sem,hk,ho]<;>rfl)) ?_
   rintro _ ⟨b,rfl,hb⟩
   simp only[go_sem,reduceCtorEq,↓reduceIte,nA,nB,nC,nD,nE,iA,iB,iC,iD,iE,iF,hl1,hk]
   cases b with
   | false =>
    simp only[go_sem,reduceCtorEq,↓reduceIte,nA,nB,nC,nD,nE,iA,iB,iC,iD,iE,iF,hl1,hk]
    exact⟨pc,xs,v,A,N,rfl,hL,hle,hsum⟩
   | true =>
    have dl:=hb rfl
    have hlv2:=@PS.lv_m pc dl
    simp only[go_sem,reduceCtorEq,↓reduceIte,nA,nB,nC,nD,nE,iA,iB,iC,iD,iE,iF,hl1,hk]
    refine W.step (atype_w (p:=pc) (by simp only[go_sem,hk,ho]<;>rfl)) ?_
    rintro _ ⟨p3,r3,rfl,a1,a2,a3⟩
    have hlen:=Ty.szs_len xs
    obtain⟨v',A',N',k1,k2⟩:=hL.push (y:=r3.av) (cy:=r3.av.cells) rfl r3.ele (by simp;unfold most;omega)
    rw[Ty.cells_eq] at k1
    have e1:xs.map Ty.av++[r3.av]=(xs++[r3]).map Ty.av:=by simp
    rw[e1] at k2
    have hone:v'.cells=[v']:=by obtain⟨d,h,-⟩:=k2;exact h.one
    simp only[go_sem,reduceCtorEq,↓reduceIte,nA,nB,nC,nD,nE,iA,iB,iC,iD,iE,iF,hl1,hk,hL.low,k1,k2.low,hone]
    exact⟨p3.m,by omega,p3,xs++[r3],v',A',N',rfl,rfl,k2,PS.le_trans hle a1,by simp;omega⟩
  ·rintro q ⟨pc,xs,v,A,N,rfl,hL,hle,hsum⟩
   obtain⟨Bf,k1,k2,k3,k4⟩:=hL.finf
   have hone:v.cells=[v]:=by obtain⟨d,h,-⟩:=hL;exact h.one
   have hsz:=Ty.szs_sum xs
   simp only[go_sem,reduceCtorEq,↓reduceIte,nA,nB,nC,nD,nE,iA,iB,iC,iD,iE,iF,hl1,hk,hL.low,hone]
   simp only[go_sem,reduceCtorEq,↓reduceIte,nA,nB,nC,nD,nE,iA,iB,iC,iD,iE,iF,k1]
   refine⟨_,⟨x2.text,xs,x2.line,x2.col⟩,by rw[back_ps k2 (by simp[alow_agg,alow_tup,alowL_cons,alowL_nil,alow_i,alow_s,alow_b,alow_sl,alow_nsl,lst_alow]),Constr.av_eq],(by repeat (first|exact PS.le_refl|assumption|(apply PS.le_trans;assumption))),by omega,?_⟩
   show 1+Ty.szs xs≤1∨1+Ty.szs xs+_+5≤_
   omega
theorem fixity_w (hl:p.lv=1) (ho:obj s k=some p.ob):W (C F0 X0 33 [.ref k 0] s) fun q=>∃ (p':PS) (r:FixT),q=(r.av,setOb s k p'.ob)∧p.le p'∧p'.m≤p.m - 1:=by
 have hk:=obj_lt ho
 have hlv:=@PS.lv_le p
 rw[w_call (f:=33) rfl]
 simp only[go_sem,reduceCtorEq,↓reduceIte,nA,nB,nC,nD,nE,iA,iB,iC,iD,iE,iF,hk]
 repeat' (first
   | (refine W.ifc (fun d=>?_) (fun d=>?_)<;>(try have dl:=PS.is_lv d)<;>(try have dl:=PS.isk_lv d (by decide))<;>(try have dl:=a1 d)<;>(try have dl:=PS.peek_lv d (by decide))<;>(try have dm:=PS.m_ok d)<;>(try have dm:=PS.m_bad d)<;>simp only[go_sem,reduceCtorEq,↓reduceIte,nA,nB,nC,nD,nE,iA,iB,iC,iD,iE,iF,d,hk,Bool.true_or,Bool.false_or,Bool.false_and,Bool.true_and])
   | (refine W.step (is_w _ (by simp only[go_sem,hk,ho]<;>rfl)) ?_;rintro _ rfl;simp only[go_sem,reduceCtorEq,↓reduceIte,nA,nB,nC,nD,nE,iA,iB,iC,iD,iE,iF,hk])
   | (refine W.step (isk_w _ (by simp only[go_sem,hk,ho]<;>rfl)) ?_;rintro _ rfl;simp only[go_sem,reduceCtorEq,↓reduceIte,nA,nB,nC,nD,nE,iA,iB,iC,iD,iE,iF,hk])
   | (refine W.step (peek_w (by simp only[go_sem,hk,ho]<;>rfl)) ?_;rintro _ rfl;simp only[go_sem,reduceCtorEq,↓reduceIte,nA,nB,nC,nD,nE,iA,iB,iC,iD,iE,iF,hk])
   | (refine W.step (next_w (by simp only[go_sem,hk,ho]<;>rfl)) ?_;rintro _ ⟨p2,rfl,a1,a2,a3⟩;simp only[go_sem,reduceCtorEq,↓reduceIte,nA,nB,nC,nD,nE,iA,iB,iC,iD,iE,iF,hk])
   | (refine W.step (minus_w (by simp only[go_sem,hk,ho]<;>rfl)) ?_;rintro _ ⟨p2,rfl,a1,a2,a3⟩;simp only[go_sem,reduceCtorEq,↓reduceIte,nA,nB,nC,nD,nE,iA,iB,iC,iD,iE,iF,hk])
   | (refine W.step (plain_w (by simp only[go_sem,hk,ho]<;>rfl)) ?_;rintro _ ⟨p2,n2,l2,c2,rfl,a1,a2⟩;simp only[go_sem,reduceCtorEq,↓reduceIte,nA,nB,nC,nD,nE,iA,iB,iC,iD,iE,iF,hk])
   | (refine W.step (number_w (by simp only[go_sem,hk,ho]<;>rfl)) ?_;rintro _ ⟨p2,n2,l2,c2,rfl,a1,a2⟩;simp only[go_sem,reduceCtorEq,↓reduceIte,nA,nB,nC,nD,nE,iA,iB,iC,iD,iE,iF,hk])
   | (refine W.step (ahead_w _ _ (by simp only[go_sem,hk,ho]<;>rfl)) ?_;rintro _ ⟨b2,rfl,a1⟩;simp only[go_sem,reduceCtorEq,↓reduceIte,nA,nB,nC,nD,nE,iA,iB,iC,iD,iE,iF,hk])
   | (refine W.step (pattern_w (by simp only[go_sem,hk,ho]<;>rfl)) ?_;rintro _ ⟨b2,rfl,a1⟩;simp only[go_sem,reduceCtorEq,↓reduceIte,nA,nB,nC,nD,nE,iA,iB,iC,iD,iE,iF,hk])
   | (refine W.step (argument_w (by simp only[go_sem,hk,ho]<;>rfl)) ?_;rintro _ ⟨b2,rfl,a1⟩;simp only[go_sem,reduceCtorEq,↓reduceIte,nA,nB,nC,nD,nE,iA,iB,iC,iD,iE,iF,hk])
   | (refine W.step (atomic_w (by simp only[go_sem,hk,ho]<;>rfl)) ?_;rintro _ ⟨b2,rfl,a1⟩;simp only[go_sem,reduceCtorEq,↓reduceIte,nA,nB,nC,nD,nE,iA,iB,iC,iD,iE,iF,hk])
   | (refine W.step (operator_w (by simp only[go_sem,hk,ho]<;>rfl)) ?_;rintro _ ⟨b2,rfl,a1⟩;simp only[go_sem,reduceCtorEq,↓reduceIte,nA,nB,nC,nD,nE,iA,iB,iC,iD,iE,iF,hk])
   | (refine W.step (text_w _ (by simp only[go_sem,hk,ho]<;>rfl)) ?_;rintro _ ⟨p2,x2,rfl,a1,a2,a3⟩;simp only[go_sem,reduceCtorEq,↓reduceIte,nA,nB,nC,nD,nE,iA,iB,iC,iD,iE,iF,hk])
   | (refine W.step (want_w _ (by decide) (by simp only[go_sem,hk,ho]<;>rfl)) ?_;rintro _ ⟨p2,x2,rfl,a1,a2,a3⟩;simp only[go_sem,reduceCtorEq,↓reduceIte,nA,nB,nC,nD,nE,iA,iB,iC,iD,iE,iF,hk])
   | (refine W.step (fails_w _ (by simp only[go_sem,hk,ho]<;>rfl)) ?_;rintro _ ⟨p2,rfl,a1,a2,a3,a4⟩;simp only[go_sem,reduceCtorEq,↓reduceIte,nA,nB,nC,nD,nE,iA,iB,iC,iD,iE,iF,hk]))
 all_goals exact⟨_,⟨_,_,_,_,_⟩,rfl,(by repeat (first|exact PS.le_refl|assumption|(apply PS.le_trans;assumption))),by omega⟩
end
end Go.Am
namespace Go.Am
open Go
section
variable {s:St} {k:Nat} {p:PS}
theorem strs_psh {l:List Str} {x:Str}:strs l++[.s x]=strs (l++[x]):=by simp[strs]
theorem str_ele {x:Str}:Ele .one (.s x):=strs_ele (l:=[x]) _ (List.mem_singleton.2 rfl)
theorem data_w (hpl:p.lv=1) (ho:obj s k=some p.ob):W (C F0 X0 32 [.ref k 0] s) fun q=>∃ (p':PS) (r:Data),q=(r.av,setOb s k p'.ob)∧PZ r.sz p p':=by
 have hk:=obj_lt ho
 have hlv:=@PS.lv_le p
 rw[w_call (f:=32) rfl]
 simp only[go_sem,reduceCtorEq,↓reduceIte,nA,nB,nC,nD,nE,iA,iB,iC,iD,iE,iF,hk]
 repeat' (first
   | (refine W.ifc (fun d=>?_) (fun d=>?_)<;>(try have dl:=PS.is_lv d)<;>(try have dl:=PS.isk_lv d (by decide))<;>(try have dl:=a1 d)<;>(try have dl:=PS.peek_lv d (by decide))<;>(try have dm:=PS.m_ok d)<;>(try have dm:=PS.m_bad d)<;>simp only[go_sem,reduceCtorEq,↓reduceIte,nA,nB,nC,nD,nE,iA,iB,iC,iD,iE,iF,d,hk,Bool.true_or,Bool.false_or,Bool.false_and,Bool.true_and])
   | (refine W.step (is_w _ (by simp only[go_sem,hk,ho]<;>rfl)) ?_;rintro _ rfl;simp only[go_sem,reduceCtorEq,↓reduceIte,nA,nB,nC,nD,nE,iA,iB,iC,iD,iE,iF,hk])
   | (refine W.step (isk_w _ (by simp only[go_sem,hk,ho]<;>rfl)) ?_;rintro _ rfl;simp only[go_sem,reduceCtorEq,↓reduceIte,nA,nB,nC,nD,nE,iA,iB,iC,iD,iE,iF,hk])
   | (refine W.step (peek_w (by simp only[go_sem,hk,ho]<;>rfl)) ?_;rintro _ rfl;simp only[go_sem,reduceCtorEq,↓reduceIte,nA,nB,nC,nD,nE,iA,iB,iC,iD,iE,iF,hk])
   | (refine W.step (next_w (by simp only[go_sem,hk,ho]<;>rfl)) ?_;rintro _ ⟨p2,rfl,a1,a2,a3⟩;simp only[go_sem,reduceCtorEq,↓reduceIte,nA,nB,nC,nD,nE,iA,iB,iC,iD,iE,iF,hk])
   | (refine W.step (minus_w (by simp only[go_sem,hk,ho]<;>rfl)) ?_;rintro _ ⟨p2,rfl,a1,a2,a3⟩;simp only[go_sem,reduceCtorEq,↓reduceIte,nA,nB,nC,nD,nE,iA,iB,iC,iD,iE,iF,hk])
   | (refine W.step (plain_w (by simp only[go_sem,hk,ho]<;>rfl)) ?_;rintro _ ⟨p2,n2,l2,c2,rfl,a1,a2⟩;simp only[go_sem,reduceCtorEq,↓reduceIte,nA,nB,nC,nD,nE,iA,iB,iC,iD,iE,iF,hk])
   | (refine W.step (number_w (by simp only[go_sem,hk,ho]<;>rfl)) ?_;rintro _ ⟨p2,n2,l2,c2,rfl,a1,a2⟩;simp only[go_sem,reduceCtorEq,↓reduceIte,nA,nB,nC,nD,nE,iA,iB,iC,iD,iE,iF,hk])
   | (refine W.step (ahead_w _ _ (by simp only[go_sem,hk,ho]<;>rfl)) ?_;rintro _ ⟨b2,rfl,a1⟩;simp only[go_sem,reduceCtorEq,↓reduceIte,nA,nB,nC,nD,nE,iA,iB,iC,iD,iE,iF,hk])
   | (refine W.step (pattern_w (by simp only[go_sem,hk,ho]<;>rfl)) ?_;rintro _ ⟨b2,rfl,a1⟩;simp only[go_sem,reduceCtorEq,↓reduceIte,nA,nB,nC,nD,nE,iA,iB,iC,iD,iE,iF,hk])
   | (refine W.step (argument_w (by simp only[go_sem,hk,ho]<;>rfl)) ?_;rintro _ ⟨b2,rfl,a1⟩;simp only[go_sem,reduceCtorEq,↓reduceIte,nA,nB,nC,nD,nE,iA,iB,iC,iD,iE,iF,hk])
   | (refine W.step (atomic_w (by simp only[go_sem,hk,ho]<;>rfl)) ?_;rintro _ ⟨b2,rfl,a1⟩;simp only[go_sem,reduceCtorEq,↓reduceIte,nA,nB,nC,nD,nE,iA,iB,iC,iD,iE,iF,hk])
   | (refine W.step (operator_w (by simp only[go_sem,hk,ho]<;>rfl)) ?_;rintro _ ⟨b2,rfl,a1⟩;simp only[go_sem,reduceCtorEq,↓reduceIte,nA,nB,nC,nD,nE,iA,iB,iC,iD,iE,iF,hk])
   | (refine W.step (text_w _ (by simp only[go_sem,hk,ho]<;>rfl)) ?_;rintro _ ⟨p2,x2,rfl,a1,a2,a3⟩;simp only[go_sem,reduceCtorEq,↓reduceIte,nA,nB,nC,nD,nE,iA,iB,iC,iD,iE,iF,hk])
   | (refine W.step (want_w _ (by decide) (by simp only[go_sem,hk,ho]<;>rfl)) ?_;rintro _ ⟨p2,x2,rfl,a1,a2,a3⟩;simp only[go_sem,reduceCtorEq,↓reduceIte,nA,nB,nC,nD,nE,iA,iB,iC,iD,iE,iF,hk])
   | (refine W.step (fails_w _ (by simp only[go_sem,hk,ho]<;>rfl)) ?_;rintro _ ⟨p2,rfl,a1,a2,a3,a4⟩;simp only[go_sem,reduceCtorEq,↓reduceIte,nA,nB,nC,nD,nE,iA,iB,iC,iD,iE,iF,hk]))
 have hmle:=@PS.m_le p2
 obtain⟨l1,hl1⟩:∃ l1:List Ob,l1=[.cells [.s [],.nsl,.nsl,.i .i64 0,.i .i64 0],.cells [.i .i64 x2.kind,.s x2.text,.i .i64 x2.n,.i .i64 (x2.line:Nat),.i .i64 (x2.col:Nat),.b x2.made]]:=⟨_,rfl⟩
 refine W.step (W.loop (L:=l32_0) (Q:=fun q=>∃ (pc:PS) (xs:List Str) (v:AV) (A:Nat→Option (List AV)) (N:Nat),q=(.exit 0,[(0,.ref k 0),(2,.ref (cnt s) 0),(4,.ref (cnt s+2) 0),(15,.b false)],wa (ex (setOb s k pc.ob) (l1++[.cells [.s x2.text,v,.nsl,.i .i64 (x2.line:Nat),.i .i64 (x2.col:Nat)]])) A N)∧Loc2 s.arr s.nxt A N .one v (strs xs) (.st 4) .nsl []∧p2.le pc∧xs.length+20*pc.m≤20*p2.m) rfl (fun i e t=>∃ (pc:PS) (xs:List Str) (v:AV) (A:Nat→Option (List AV)) (N:Nat),i=pc.m∧e=[(0,.ref k 0),(2,.ref (cnt s) 0),(4,.ref (cnt s+2) 0)]∧t=wa (ex (setOb s k pc.ob) (l1++[.cells [.s x2.text,v,.nsl,.i .i64 (x2.line:Nat),.i .i64 (x2.col:Nat)]])) A N∧Loc2 s.arr s.nxt A N .one v (strs xs) (.st 4) .nsl []∧p2.le pc∧xs.length+20*pc.m≤20*p2.m) ?_ _ _ _ ⟨p2,[],.nsl,s.arr,s.nxt,rfl,rfl,by rw[hl1];rfl,Loc2.nil,PS.le_refl,by simp⟩) ?_
 ·rintro i e t ⟨pc,xs,v,A,N,rfl,rfl,rfl,hL,hle,hsum⟩
  simp only[go_sem,reduceCtorEq,↓reduceIte,nA,nB,nC,nD,nE,iA,iB,iC,iD,iE,iF,hl1,hk]
  refine W.step (isk_w (p:=pc) _ (by simp only[go_sem,hk,ho]<;>rfl)) ?_
  rintro _ rfl
  simp only[go_sem,reduceCtorEq,↓reduceIte,nA,nB,nC,nD,nE,iA,iB,iC,iD,iE,iF,hl1,hk]
  cases hb:pc.isk 1 with
  | false =>
   simp only[go_sem,reduceCtorEq,↓reduceIte,nA,nB,nC,nD,nE,iA,iB,iC,iD,iE,iF,hl1,hk,hb]
   exact⟨pc,xs,v,A,N,rfl,hL,hle,hsum⟩
  | true =>
   have dl:=PS.isk_lv hb (by decide)
   have hlv2:=@PS.lv_m pc dl
   simp only[go_sem,reduceCtorEq,↓reduceIte,nA,nB,nC,nD,nE,iA,iB,iC,iD,iE,iF,hl1,hk]
   refine W.step (next_w (p:=pc) (by simp only[go_sem,hk,ho]<;>rfl)) ?_
   rintro _ ⟨p3,rfl,a1,a2,a3⟩
   obtain⟨v',A',N',k1,k2⟩:=hL.push1 (y:=.s pc.peek.text) (cy:=[.s pc.peek.text]) rfl str_ele (by simp[strs];unfold most;omega)
   rw[strs_psh] at k2
   have hone:=k2.one1
   simp only[go_sem,reduceCtorEq,↓reduceIte,nA,nB,nC,nD,nE,iA,iB,iC,iD,iE,iF,hl1,hk,hL.low1,k1,k2.low1,hone]
   exact⟨p3.m,by omega,p3,xs++[pc.peek.text],v',A',N',rfl,rfl,k2,PS.le_trans hle a1,by simp;omega⟩
 ·rintro q ⟨pc,xs,v,A,N,rfl,hL,hle,hsum⟩
  have hone:=hL.one1
  simp only[go_sem,reduceCtorEq,↓reduceIte,nA,nB,nC,nD,nE,iA,iB,iC,iD,iE,iF,hl1,hk]
  refine W.step (text_w (p:=pc) _ (by simp only[go_sem,hk,ho]<;>rfl)) ?_
  rintro _ ⟨p4,x4,rfl,b1,b2,b3⟩
  simp only[go_sem,reduceCtorEq,↓reduceIte,nA,nB,nC,nD,nE,iA,iB,iC,iD,iE,iF,hl1,hk]
  refine W.step (constr_w (p:=p4) (by simp only[go_sem,hk,ho]<;>rfl)) ?_
  rintro _ ⟨p5,r5,rfl,c1,c2,c3⟩
  obtain⟨w,A5,N5,k1,k2⟩:=hL.push2 (y:=r5.av) (cy:=r5.av.cells) rfl r5.ele (by simp;unfold most;omega)
  rw[Constr.cells_eq] at k1
  have hone2:=k2.one2
  simp only[go_sem,reduceCtorEq,↓reduceIte,nA,nB,nC,nD,nE,iA,iB,iC,iD,iE,iF,hl1,hk,hL.low2,k1,k2.low2,k2.low1,hone2,hone]
  have e0:([]:List AV)++[r5.av]=[r5].map Constr.av:=rfl
  rw[e0] at k2
  obtain⟨vp,hvp⟩:∃ vp,vp=v:=⟨_,rfl⟩
  refine W.step (W.loop (L:=l32_1) (Q:=fun q=>∃ (pd:PS) (ys:List Constr) (w:AV) (A:Nat→Option (List AV)) (N:Nat),q=(.exit 2,[(0,.ref k 0),(2,.ref (cnt s) 0),(4,.ref (cnt s+2) 0),(34,.b false)],wa (ex (setOb s k pd.ob) (l1++[.cells [.s x2.text,v,w,.i .i64 (x2.line:Nat),.i .i64 (x2.col:Nat)]])) A N)∧Loc2 s.arr s.nxt A N .one v (strs xs) (.st 4) w (ys.map Constr.av)∧p5.le pd∧(ys.map Constr.sz).sum+20*pd.m≤20*p5.m+r5.sz) rfl (fun i e t=>∃ (pd:PS) (ys:List Constr) (w:AV) (A:Nat→Option (List AV)) (N:Nat),i=pd.m∧e=[(0,.ref k 0),(2,.ref (cnt s) 0),(4,.ref (cnt s+2) 0)]∧t=wa (ex (setOb s k pd.ob) (l1++[.cells [.s x2.text,v,w,.i .i64 (x2.line:Nat),.i .i64 (x2.col:Nat)]])) A N∧Loc2 s.arr s.nxt A N .one v (strs xs) (.st 4) w (ys.map Constr.av)∧p5.le pd∧(ys.map Constr.sz).sum+20*pd.m≤20*p5.m+r5.sz) ?_ _ _ _ ⟨p5,[r5],w,A5,N5,rfl,rfl,by rw[hl1];rfl,k2,PS.le_refl,by simp;omega⟩) ?_
  ·rintro i e t ⟨pd,ys,w,A,N,rfl,rfl,rfl,hL,hle2,hsum2⟩
   simp only[go_sem,reduceCtorEq,↓reduceIte,nA,nB,nC,nD,nE,iA,iB,iC,iD,iE,iF,hl1,hk]
   refine W.step (is_w (p:=pd) _ (by simp only[go_sem,hk,ho]<;>rfl)) ?_
   rintro _ rfl
   simp only[go_sem,reduceCtorEq,↓reduceIte,nA,nB,nC,nD,nE,iA,iB,iC,iD,iE,iF,hl1,hk]
   cases hb:pd.is [124] with
   | false =>
    simp only[go_sem,reduceCtorEq,↓reduceIte,nA,nB,nC,nD,nE,iA,iB,iC,iD,iE,iF,hl1,hk,hb]
    exact⟨pd,ys,w,A,N,rfl,hL,hle2,hsum2⟩
   | true =>
    have dl:=PS.is_lv hb
    have hlv2:=@PS.lv_m pd dl
    simp only[go_sem,reduceCtorEq,↓reduceIte,nA,nB,nC,nD,nE,iA,iB,iC,iD,iE,iF,hl1,hk]
    refine W.step (next_w (p:=pd) (by simp only[go_sem,hk,ho]<;>rfl)) ?_
    rintro _ ⟨p6,rfl,a1,a2,a3⟩
    simp only[go_sem,reduceCtorEq,↓reduceIte,nA,nB,nC,nD,nE,iA,iB,iC,iD,iE,iF,hl1,hk]
    refine W.step (constr_w (p:=p6) (by simp only[go_sem,hk,ho]<;>rfl)) ?_
    rintro _ ⟨p7,r7,rfl,d1,d2,d3⟩
    have hlen:=Constr.szs_len ys
    obtain⟨w',A',N',j1,j2⟩:=hL.push2 (y:=r7.av) (cy:=r7.av.cells) rfl r7.ele (by simp;unfold most;omega)
    rw[Constr.cells_eq] at j1
    have e1:ys.map Constr.av++[r7.av]=(ys++[r7]).map Constr.av:=by simp
    rw[e1] at j2
    have hone3:=j2.one2
    simp only[go_sem,reduceCtorEq,↓reduceIte,nA,nB,nC,nD,nE,iA,iB,iC,iD,iE,iF,hl1,hk,hL.low2,hL.low1,j1,j2.low2,j2.low1,hone3,hone]
    exact⟨p7.m,by omega,p7,ys++[r7],w',A',N',rfl,rfl,j2,PS.le_trans hle2 (PS.le_trans a1 d1),by simp;omega⟩
  ·rintro q ⟨pd,ys,w,A,N,rfl,hL,hle2,hsum2⟩
   have hone3:=hL.one2
   obtain⟨A1,A2,j1,j2,j3⟩:=hL.fin
   simp only[go_sem,reduceCtorEq,↓reduceIte,nA,nB,nC,nD,nE,iA,iB,iC,iD,iE,iF,hl1,hk,hL.low1,hL.low2,hone3,hone,j1,j2]
   refine⟨_,⟨x2.text,xs,ys,x2.line,x2.col⟩,by rw[back_ps j3 (by simp[alow_agg,alow_tup,alowL_cons,alowL_nil,alow_i,alow_s,alow_b,alow_sl,alow_nsl,lst_alow]),Data.av_eq],(by repeat (first|exact PS.le_refl|assumption|(apply PS.le_trans;assumption))),by omega,?_⟩
   show 1+xs.length+(ys.map Constr.sz).sum≤1∨1+xs.length+(ys.map Constr.sz).sum+_+5≤_
   omega
end
end Go.Am
namespace Go.Am
open Go
def clr (B:Nat→Option (List AV)) (D:List Nat):Nat→Option (List AV):=fun a=>if a∈D then none else B a
theorem clr_nil {B}:clr B []=B:=by funext a;simp[clr]
theorem clr_app {B D E}:clr (clr B D) E=clr B (D++E):=by
 funext a
 unfold clr
 by_cases h:a∈D<;>by_cases k:a∈E<;>simp[h,k]
theorem clr_cons {B a D}:clr (upd B a none) D=clr B (a::D):=by
 funext i
 unfold clr upd
 by_cases h:i=a<;>by_cases k:i∈D<;>simp[h,k]
theorem clr_not {B D a} (h:a∉D):clr B D a=B a:=if_neg h
theorem clr_old {n0 A A0 D} (h:Old n0 A A0) (hD:∀ a∈D,n0≤a):Old n0 (clr A D) A0:=fun a ha=>(clr_not (fun h=>by have:=hD a h;omega)).trans (h a ha)
def FzL (m:Nat) (A:Nat→Option (List AV)) (vs xs:List AV) (D:List Nat):Prop :=
 ∀ n s B M,(∀ a∈D,B a=A a)→frzAll (frz (n+m)) vs (wa s B M)=some (xs,wa s (clr B D) M)
section
variable {m:Nat} {A:Nat→Option (List AV)} {vs xs ws ys:List AV} {D E:List Nat}
theorem FzL.nil:FzL m A [] [] []:=fun n s B M _=>by rw[clr_nil];rfl
theorem frzAll_app {f:AV→St→Option (AV × St)}:∀ {vs ws:List AV} {s},frzAll f (vs++ws) s=(frzAll f vs s).bind fun p=>(frzAll f ws p.2).bind fun q=>some (p.1++q.1,q.2)
 | [],ws,s=>by
  rw[List.nil_append,frzAll_nil]
  dsimp only[Option.bind_some]
  cases frzAll f ws s<;>rfl
 | v::vs,ws,s=>by
  rw[List.cons_append,frzAll_cons,frzAll_cons]
  cases f v s with
  | none=>rfl
  | some p =>
   obtain⟨y,s1⟩:=p
   dsimp only[Option.bind_some]
   rw[frzAll_app]
   cases frzAll f vs s1 with
   | none=>rfl
   | some p =>
    obtain⟨ys,s2⟩:=p
    dsimp only[Option.bind_some]
    cases frzAll f ws s2<;>rfl
theorem FzL.app (h:FzL m A vs xs D) (k:FzL m A ws ys E) (hd:∀ a∈E,a∉D):FzL m A (vs++ws) (xs++ys) (D++E):=by
 intro n s B M hB
 rw[frzAll_app,h n s B M (fun a ha=>hB a (List.mem_append_left _ ha))]
 dsimp only[Option.bind_some]
 rw[k n s (clr B D) M (fun a ha=>(clr_not (hd a ha)).trans (hB a (List.mem_append_right _ ha))),clr_app]
 rfl
theorem FzL.mono {A'} (h:FzL m A vs xs D) (hA:∀ a∈D,A' a=A a):FzL m A' vs xs D:=fun n s B M hB=>h n s B M fun a ha=>(hB a ha).trans (hA a ha)
theorem FzL.up (h:FzL m A vs xs D):FzL (m+1) A vs xs D:=fun n s B M hB=>by
 have:=h (n+1) s B M hB
 rw[show n+(m+1)=n+1+m by omega]
 exact this
theorem FzL.ups (h:FzL m A vs xs D) (k:Nat):FzL (m+k) A vs xs D:=by
 induction k with
 | zero=>exact h
 | succ k ih=>exact ih.up
theorem FzL.scal (h:vs.all AV.scal=true):FzL 1 A vs vs []:=fun n s B M _=>by rw[clr_nil];exact scals_frz h
theorem FzL.one {v} (h:v.scal=true):FzL 1 A [v] [v] []:=FzL.scal (by simp[h])
theorem FzL.os {a:Nat} {el:El} {k:Nat} {cs zs:List AV} (h:FzL m A (cs.take (k*el.size)) ys D) (ha:A a=some cs) (hd:a∉D) (hc:chunk el k ys=some zs):FzL (m+1) A [.os a el k] [.sl el zs] (a::D):=by
 intro n s B M hB
 rw[frzAll_cons]
 have e1:frz (n+(m+1)) (.os a el k) (wa s B M)=some (.sl el zs,wa s (clr B (a::D)) M):=by
  rw[show n+(m+1)=n+m+1 by omega,Am.frz]
  show (match B a with|some cs=>_|none=>_)=_
  rw[hB a (List.mem_cons_self ..),ha]
  dsimp only
  have:=h n s (upd B a none) M (fun b hb=>(upd_other (fun e=>hd (by rw[←e];exact hb))).trans (hB b (List.mem_cons_of_mem _ hb)))
  rw[show ({ wa s B M with arr:=upd (wa s B M).arr a none }:St)=wa s (upd B a none) M from rfl,this]
  dsimp only
  rw[hc,clr_cons]
 rw[e1]
 rfl
theorem FzL.agg {n s M} (h:FzL m A vs xs D):frz (n+m+1) (.agg vs) (wa s A M)=some (.agg xs,wa s (clr A D) M):=by
 rw[frz_agg,h n s A M fun _ _=>rfl]
 rfl
theorem FzL.aggo (h:FzL m A vs xs D):FzL (m+1) A [.agg vs] [.agg xs] D:=by
 intro n s B M hB
 rw[frzAll_cons,show n+(m+1)=n+m+1 by omega,frz_agg,h n s B M hB]
 rfl
end
theorem Gr.fz {A N el v xs d} (h:Gr A N el v xs d) (hne:xs=[]→v=.nsl):FzL 2 A [v] [lst el xs] d.toList:=by
 obtain⟨h0,⟨rfl,rfl,rfl⟩|⟨b,cs,rfl,j1,j2,j3,rfl⟩⟩:=id h
 ·exact (FzL.one rfl).up
 ·cases xs with
  | nil=>cases hne rfl
  | cons x xs =>
   have hch:=chunk_flat (x::xs) [] (fun y hy=>(h0 y hy).elem)
   rw[List.append_nil] at hch
   exact FzL.os (m:=1) (by rw[j2];exact FzL.scal (flat_scal h0)) j1 (by simp) hch
theorem lst_scals {el} {xs:List AV} (h:AV.finL xs=true):(lst el xs).scal=true:=lst_scal h
theorem FzL.arr {A a el} {xs:List AV} (ha:A a=some (xs.flatMap AV.cells)) (hx:∀ x∈xs,Ele el x):FzL 2 A [.os a el xs.length] [.sl el xs] [a]:=by
 have hch:=chunk_flat xs [] (fun y hy=>(hx y hy).elem)
 rw[List.append_nil] at hch
 exact FzL.os (m:=1) (by rw[List.take_of_length_le (by rw[flat_len hx];exact Nat.le_refl _)];exact FzL.scal (flat_scal hx)) ha (by simp) hch
theorem newAr_wa2 {u:St} {A N cs}:newAr (wa u A N) cs=wa u (upd A N (some cs)) (N+1):=(rfl)
theorem toList_lt {d:Option Nat} {a:Nat} (h:a∈d.toList):d=some a:=by cases d<;>simp at h;rw[h]
end Go.Am
namespace Go.Am
open Go
def PZ1 (z:Nat) (p p':PS):Prop:=p.le p'∧p'.m≤p.m - 1∧(z≤1∨z+20*p'.m+4≤20*p.m)
abbrev XpW1 (f:Nat) (p:PS) (s:St) (k:Nat):Prop:=W (C F0 X0 f [.ref k 0] s) fun q=>∃ (p':PS) (r:Xp),q=(r.av,setOb s k p'.ob)∧PZ1 r.sz p p'
abbrev XpW (f:Nat) (p:PS) (s:St) (k:Nat):Prop:=W (C F0 X0 f [.ref k 0] s) fun q=>∃ (p':PS) (r:Xp),q=(r.av,setOb s k p'.ob)∧PZ r.sz p p'
abbrev ExprL (n:Nat):Prop:=∀ (p:PS) (s:St) (k:Nat),obj s k=some p.ob→p.m<n→XpW1 107 p s k
abbrev OperandL (n:Nat):Prop:=∀ (p:PS) (s:St) (k:Nat),obj s k=some p.ob→p.m<n→XpW 127 p s k
abbrev AexpL (n:Nat):Prop:=∀ (p:PS) (s:St) (k:Nat),obj s k=some p.ob→p.m<n→XpW 140 p s k
abbrev LambdaL (n:Nat):Prop:=∀ (p:PS) (s:St) (k:Nat),obj s k=some p.ob→p.m<n→p.lv=1→XpW 136 p s k
theorem aexp_step (n:Nat) (hexpr:ExprL n):AexpL (n+1):=by
 intro p s k ho hn
 have hk:=obj_lt ho
 have hlv:=@PS.lv_le p
 rw[XpW,w_call (f:=140) rfl]
 simp only[go_sem,reduceCtorEq,↓reduceIte,nA,nB,nC,nD,nE,iA,iB,iC,iD,iE,iF,hk]
 repeat' (first
   | (refine W.ifc (fun d=>?_) (fun d=>?_)<;>(try have dl:=PS.is_lv d)<;>(try have dl:=PS.isk_lv d (by decide))<;>(try have dl:=a1 d)<;>(try have dl:=PS.peek_lv d (by decide))<;>(try have dm:=PS.m_ok d)<;>(try have dm:=PS.m_bad d)<;>simp only[go_sem,reduceCtorEq,↓reduceIte,nA,nB,nC,nD,nE,iA,iB,iC,iD,iE,iF,d,hk,Bool.true_or,Bool.false_or,Bool.false_and,Bool.true_and])
   | (refine W.step (is_w _ (by simp only[go_sem,hk,ho]<;>rfl)) ?_;rintro _ rfl;simp only[go_sem,reduceCtorEq,↓reduceIte,nA,nB,nC,nD,nE,iA,iB,iC,iD,iE,iF,hk])
   | (refine W.step (isk_w _ (by simp only[go_sem,hk,ho]<;>rfl)) ?_;rintro _ rfl;simp only[go_sem,reduceCtorEq,↓reduceIte,nA,nB,nC,nD,nE,iA,iB,iC,iD,iE,iF,hk])
   | (refine W.step (peek_w (by simp only[go_sem,hk,ho]<;>rfl)) ?_;rintro _ rfl;simp only[go_sem,reduceCtorEq,↓reduceIte,nA,nB,nC,nD,nE,iA,iB,iC,iD,iE,iF,hk])
   | (refine W.step (next_w (by simp only[go_sem,hk,ho]<;>rfl)) ?_;rintro _ ⟨p2,rfl,a1,a2,a3⟩;simp only[go_sem,reduceCtorEq,↓reduceIte,nA,nB,nC,nD,nE,iA,iB,iC,iD,iE,iF,hk])
   | (refine W.step (minus_w (by simp only[go_sem,hk,ho]<;>rfl)) ?_;rintro _ ⟨p2,rfl,a1,a2,a3⟩;simp only[go_sem,reduceCtorEq,↓reduceIte,nA,nB,nC,nD,nE,iA,iB,iC,iD,iE,iF,hk])
   | (refine W.step (plain_w (by simp only[go_sem,hk,ho]<;>rfl)) ?_;rintro _ ⟨p2,n2,l2,c2,rfl,a1,a2⟩;simp only[go_sem,reduceCtorEq,↓reduceIte,nA,nB,nC,nD,nE,iA,iB,iC,iD,iE,iF,hk])
   | (refine W.step (number_w (by simp only[go_sem,hk,ho]<;>rfl)) ?_;rintro _ ⟨p2,n2,l2,c2,rfl,a1,a2⟩;simp only[go_sem,reduceCtorEq,↓reduceIte,nA,nB,nC,nD,nE,iA,iB,iC,iD,iE,iF,hk])
   | (refine W.step (ahead_w _ _ (by simp only[go_sem,hk,ho]<;>rfl)) ?_;rintro _ ⟨b2,rfl,a1⟩;simp only[go_sem,reduceCtorEq,↓reduceIte,nA,nB,nC,nD,nE,iA,iB,iC,iD,iE,iF,hk])
   | (refine W.step (pattern_w (by simp only[go_sem,hk,ho]<;>rfl)) ?_;rintro _ ⟨b2,rfl,a1⟩;simp only[go_sem,reduceCtorEq,↓reduceIte,nA,nB,nC,nD,nE,iA,iB,iC,iD,iE,iF,hk])
   | (refine W.step (argument_w (by simp only[go_sem,hk,ho]<;>rfl)) ?_;rintro _ ⟨b2,rfl,a1⟩;simp only[go_sem,reduceCtorEq,↓reduceIte,nA,nB,nC,nD,nE,iA,iB,iC,iD,iE,iF,hk])
   | (refine W.step (atomic_w (by simp only[go_sem,hk,ho]<;>rfl)) ?_;rintro _ ⟨b2,rfl,a1⟩;simp only[go_sem,reduceCtorEq,↓reduceIte,nA,nB,nC,nD,nE,iA,iB,iC,iD,iE,iF,hk])
   | (refine W.step (operator_w (by simp only[go_sem,hk,ho]<;>rfl)) ?_;rintro _ ⟨b2,rfl,a1⟩;simp only[go_sem,reduceCtorEq,↓reduceIte,nA,nB,nC,nD,nE,iA,iB,iC,iD,iE,iF,hk])
   | (refine W.step (text_w _ (by simp only[go_sem,hk,ho]<;>rfl)) ?_;rintro _ ⟨p2,x2,rfl,a1,a2,a3⟩;simp only[go_sem,reduceCtorEq,↓reduceIte,nA,nB,nC,nD,nE,iA,iB,iC,iD,iE,iF,hk])
   | (refine W.step (want_w _ (by decide) (by simp only[go_sem,hk,ho]<;>rfl)) ?_;rintro _ ⟨p2,x2,rfl,a1,a2,a3⟩;simp only[go_sem,reduceCtorEq,↓reduceIte,nA,nB,nC,nD,nE,iA,iB,iC,iD,iE,iF,hk])
   | (refine W.step (fails_w _ (by simp only[go_sem,hk,ho]<;>rfl)) ?_;rintro _ ⟨p2,rfl,a1,a2,a3,a4⟩;simp only[go_sem,reduceCtorEq,↓reduceIte,nA,nB,nC,nD,nE,iA,iB,iC,iD,iE,iF,hk])
   | (refine W.step (hexpr _ _ _ (by simp only[go_sem,hk,ho]<;>rfl) (by omega)) ?_;rintro _ ⟨p2,r2,rfl,a1,a2,a3⟩;simp only[go_sem,reduceCtorEq,↓reduceIte,nA,nB,nC,nD,nE,iA,iB,iC,iD,iE,iF,hk]))
 all_goals first
  | exact⟨_,Xp.gen .var _ _ [] [] [] [] _ _,rfl,(by repeat (first|exact PS.le_refl|assumption|(apply PS.le_trans;assumption))),by omega,.inl (Nat.le_refl _)⟩
  | exact⟨_,Xp.gen .con _ _ [] [] [] [] _ _,rfl,(by repeat (first|exact PS.le_refl|assumption|(apply PS.le_trans;assumption))),by omega,.inl (Nat.le_refl _)⟩
  | exact⟨_,Xp.gen .int _ _ [] [] [] [] _ _,rfl,(by repeat (first|exact PS.le_refl|assumption|(apply PS.le_trans;assumption))),by omega,.inl (Nat.le_refl _)⟩
  | exact⟨_,Xp.gen .zero _ _ [] [] [] [] _ _,rfl,(by repeat (first|exact PS.le_refl|assumption|(apply PS.le_trans;assumption))),by omega,.inl (Nat.le_refl _)⟩
  | exact⟨_,_,rfl,(by repeat (first|exact PS.le_refl|assumption|(apply PS.le_trans;assumption))),by omega,by omega⟩
theorem lam_fz {A0 A:Nat→Option (List AV)} {n0 N:Nat} {v:AV} {xs:List Str} (h:Loc2 A0 n0 A N .one v (strs xs) (.st 9) .nsl []) (r:Xp) (l c:Int) :
  ∃ B,Old n0 B A0∧∀ u,frz 20000 (.agg [.i .i64 5,.s [],.i .i64 0,v,.os N (.st 9) 1,.nsl,.nsl,.i .i64 l,.i .i64 c]) (newAr (wa u A N) r.av.cells)=some ((Xp.gen .lam [] 0 xs [r] [] [] l c).av,wa u B (N+1)):=by
 obtain⟨d1,d2,h1,h2,h3,h4,h5,h6,h7,h8⟩:=h
 have q1:FzL 2 (upd A N (some r.av.cells)) [.i .i64 5,.s [],.i .i64 0] [.i .i64 5,.s [],.i .i64 0] []:=(FzL.scal rfl).up
 have q2:FzL 2 (upd A N (some r.av.cells)) [v] [lst .one (strs xs)] d1.toList:=(h1.fz h7).mono fun a ha=>upd_other (by have:=h1.lt (toList_lt ha);omega)
 have q3:FzL 2 (upd A N (some r.av.cells)) [.os N (.st 9) 1] [.sl (.st 9) [r.av]] [N]:=FzL.arr (xs:=[r.av]) (by rw[upd_same];simp) (by intro x hx;rw[List.mem_singleton.1 hx];exact r.ele)
 have q4:FzL 2 (upd A N (some r.av.cells)) [.nsl,.nsl,.i .i64 l,.i .i64 c] [.nsl,.nsl,.i .i64 l,.i .i64 c] []:=(FzL.scal rfl).up
 have q:=((q1.app q2 (by simp)).app q3 (by intro a ha;simp at ha;subst ha;intro hm;simp at hm;have:=h1.lt hm;omega)).app q4 (by simp)
 refine⟨_,clr_old (D:=(([]++d1.toList)++[N])++[]) (old_upd (x:=some r.av.cells) h5 h6) (fun a ha=>?_),fun u=>by rw[newAr_wa2];exact q.agg (n:=19997)⟩
 simp at ha
 rcases ha with ha|rfl
 ·exact (h3 a ha).1
 ·exact h6
theorem lambda_step (n:Nat) (hexpr:ExprL n):LambdaL (n+1):=by
 intro p s k ho hn hpl
 have hk:=obj_lt ho
 have hlv:=@PS.lv_le p
 rw[XpW,w_call (f:=136) rfl]
 simp only[go_sem,reduceCtorEq,↓reduceIte,nA,nB,nC,nD,nE,iA,iB,iC,iD,iE,iF,hk]
 repeat' (first
   | (refine W.ifc (fun d=>?_) (fun d=>?_)<;>(try have dl:=PS.is_lv d)<;>(try have dl:=PS.isk_lv d (by decide))<;>(try have dl:=a1 d)<;>(try have dl:=PS.peek_lv d (by decide))<;>(try have dm:=PS.m_ok d)<;>(try have dm:=PS.m_bad d)<;>simp only[go_sem,reduceCtorEq,↓reduceIte,nA,nB,nC,nD,nE,iA,iB,iC,iD,iE,iF,d,hk,Bool.true_or,Bool.false_or,Bool.false_and,Bool.true_and])
   | (refine W.step (is_w _ (by simp only[go_sem,hk,ho]<;>rfl)) ?_;rintro _ rfl;simp only[go_sem,reduceCtorEq,↓reduceIte,nA,nB,nC,nD,nE,iA,iB,iC,iD,iE,iF,hk])
   | (refine W.step (isk_w _ (by simp only[go_sem,hk,ho]<;>rfl)) ?_;rintro _ rfl;simp only[go_sem,reduceCtorEq,↓reduceIte,nA,nB,nC,nD,nE,iA,iB,iC,iD,iE,iF,hk])
   | (refine W.step (peek_w (by simp only[go_sem,hk,ho]<;>rfl)) ?_;rintro _ rfl;simp only[go_sem,reduceCtorEq,↓reduceIte,nA,nB,nC,nD,nE,iA,iB,iC,iD,iE,iF,hk])
   | (refine W.step (next_w (by simp only[go_sem,hk,ho]<;>rfl)) ?_;rintro _ ⟨p2,rfl,a1,a2,a3⟩;simp only[go_sem,reduceCtorEq,↓reduceIte,nA,nB,nC,nD,nE,iA,iB,iC,iD,iE,iF,hk])
   | (refine W.step (minus_w (by simp only[go_sem,hk,ho]<;>rfl)) ?_;rintro _ ⟨p2,rfl,a1,a2,a3⟩;simp only[go_sem,reduceCtorEq,↓reduceIte,nA,nB,nC,nD,nE,iA,iB,iC,iD,iE,iF,hk])
   | (refine W.step (plain_w (by simp only[go_sem,hk,ho]<;>rfl)) ?_;rintro _ ⟨p2,n2,l2,c2,rfl,a1,a2⟩;simp only[go_sem,reduceCtorEq,↓reduceIte,nA,nB,nC,nD,nE,iA,iB,iC,iD,iE,iF,hk])
   | (refine W.step (number_w (by simp only[go_sem,hk,ho]<;>rfl)) ?_;rintro _ ⟨p2,n2,l2,c2,rfl,a1,a2⟩;simp only[go_sem,reduceCtorEq,↓reduceIte,nA,nB,nC,nD,nE,iA,iB,iC,iD,iE,iF,hk])
   | (refine W.step (ahead_w _ _ (by simp only[go_sem,hk,ho]<;>rfl)) ?_;rintro _ ⟨b2,rfl,a1⟩;simp only[go_sem,reduceCtorEq,↓reduceIte,nA,nB,nC,nD,nE,iA,iB,iC,iD,iE,iF,hk])
   | (refine W.step (pattern_w (by simp only[go_sem,hk,ho]<;>rfl)) ?_;rintro _ ⟨b2,rfl,a1⟩;simp only[go_sem,reduceCtorEq,↓reduceIte,nA,nB,nC,nD,nE,iA,iB,iC,iD,iE,iF,hk])
   | (refine W.step (argument_w (by simp only[go_sem,hk,ho]<;>rfl)) ?_;rintro _ ⟨b2,rfl,a1⟩;simp only[go_sem,reduceCtorEq,↓reduceIte,nA,nB,nC,nD,nE,iA,iB,iC,iD,iE,iF,hk])
   | (refine W.step (atomic_w (by simp only[go_sem,hk,ho]<;>rfl)) ?_;rintro _ ⟨b2,rfl,a1⟩;simp only[go_sem,reduceCtorEq,↓reduceIte,nA,nB,nC,nD,nE,iA,iB,iC,iD,iE,iF,hk])
   | (refine W.step (operator_w (by simp only[go_sem,hk,ho]<;>rfl)) ?_;rintro _ ⟨b2,rfl,a1⟩;simp only[go_sem,reduceCtorEq,↓reduceIte,nA,nB,nC,nD,nE,iA,iB,iC,iD,iE,iF,hk])
   | (refine W.step (text_w _ (by simp only[go_sem,hk,ho]<;>rfl)) ?_;rintro _ ⟨p2,x2,rfl,a1,a2,a3⟩;simp only[go_sem,reduceCtorEq,↓reduceIte,nA,nB,nC,nD,nE,iA,iB,iC,iD,iE,iF,hk])
   | (refine W.step (want_w _ (by decide) (by simp only[go_sem,hk,ho]<;>rfl)) ?_;rintro _ ⟨p2,x2,rfl,a1,a2,a3⟩;simp only[go_sem,reduceCtorEq,↓reduceIte,nA,nB,nC,nD,nE,iA,iB,iC,iD,iE,iF,hk])
   | (refine W.step (fails_w _ (by simp only[go_sem,hk,ho]<;>rfl)) ?_;rintro _ ⟨p2,rfl,a1,a2,a3,a4⟩;simp only[go_sem,reduceCtorEq,↓reduceIte,nA,nB,nC,nD,nE,iA,iB,iC,iD,iE,iF,hk])
   | (refine W.step (hexpr _ _ _ (by simp only[go_sem,hk,ho]<;>rfl) (by omega)) ?_;rintro _ ⟨p2,r2,rfl,a1,a2,a3⟩;simp only[go_sem,reduceCtorEq,↓reduceIte,nA,nB,nC,nD,nE,iA,iB,iC,iD,iE,iF,hk]))
 have hmle:=@PS.m_le p2
 obtain⟨l1,hl1⟩:∃ l1:List Ob,l1=[.cells [.i .i64 0,.s [],.i .i64 0,.nsl,.nsl,.nsl,.nsl,.i .i64 0,.i .i64 0]]:=⟨_,rfl⟩
 refine W.step (W.loop (L:=l136_0) (Q:=fun q=>∃ (pc:PS) (xs:List Str) (v:AV) (A:Nat→Option (List AV)) (N:Nat),q=(.exit 0,[(0,.ref k 0),(2,.ref (cnt s) 0),(3,.ref (cnt s+1) 0),(13,.b false)],wa (ex (setOb s k pc.ob) (l1++[.cells [.i .i64 5,.s [],.i .i64 0,v,.nsl,.nsl,.nsl,.i .i64 (p.peek.line:Nat),.i .i64 (p.peek.col:Nat)]])) A N)∧Loc2 s.arr s.nxt A N .one v (strs xs) (.st 9) .nsl []∧p2.le pc∧xs.length+20*pc.m≤20*p2.m) rfl (fun i e t=>∃ (pc:PS) (xs:List Str) (v:AV) (A:Nat→Option (List AV)) (N:Nat),i=pc.m∧e=[(0,.ref k 0),(2,.ref (cnt s) 0),(3,.ref (cnt s+1) 0)]∧t=wa (ex (setOb s k pc.ob) (l1++[.cells [.i .i64 5,.s [],.i .i64 0,v,.nsl,.nsl,.nsl,.i .i64 (p.peek.line:Nat),.i .i64 (p.peek.col:Nat)]])) A N∧Loc2 s.arr s.nxt A N .one v (strs xs) (.st 9) .nsl []∧p2.le pc∧xs.length+20*pc.m≤20*p2.m) ?_ _ _ _ ⟨p2,[],.nsl,s.arr,s.nxt,rfl,rfl,by rw[hl1];rfl,Loc2.nil,PS.le_refl,by simp⟩) ?_
 ·rintro i e t ⟨pc,xs,v,A,N,rfl,rfl,rfl,hL,hle,hsum⟩
  have hlen:xs.length+1≤most:=by unfold most;omega
  obtain⟨v',A',N',k1,k2⟩:=hL.push1 (y:=.s pc.peek.text) (cy:=[.s pc.peek.text]) rfl str_ele (by simpa[strs] using hlen)
  rw[strs_psh] at k2
  have hone:=k2.one1
  simp only[go_sem,reduceCtorEq,↓reduceIte,nA,nB,nC,nD,nE,iA,iB,iC,iD,iE,iF,hl1,hk]
  repeat' (first
   | (refine W.ifc (fun d=>?_) (fun d=>?_)<;>(try have dl:=PS.is_lv d)<;>(try have dl:=PS.isk_lv d (by decide))<;>(try have dl:=a1 d)<;>(try have dl:=PS.peek_lv d (by decide))<;>(try have dm:=PS.m_ok d)<;>(try have dm:=PS.m_bad d)<;>simp only[go_sem,reduceCtorEq,↓reduceIte,nA,nB,nC,nD,nE,iA,iB,iC,iD,iE,iF,d,hk,Bool.true_or,Bool.false_or,Bool.false_and,Bool.true_and,hL.low1,k1,k2.low1,hone])
   | (refine W.step (is_w _ (by simp only[go_sem,hk,ho]<;>rfl)) ?_;rintro _ rfl;simp only[go_sem,reduceCtorEq,↓reduceIte,nA,nB,nC,nD,nE,iA,iB,iC,iD,iE,iF,hk,hL.low1,k1,k2.low1,hone])
   | (refine W.step (isk_w _ (by simp only[go_sem,hk,ho]<;>rfl)) ?_;rintro _ rfl;simp only[go_sem,reduceCtorEq,↓reduceIte,nA,nB,nC,nD,nE,iA,iB,iC,iD,iE,iF,hk,hL.low1,k1,k2.low1,hone])
   | (refine W.step (peek_w (by simp only[go_sem,hk,ho]<;>rfl)) ?_;rintro _ rfl;simp only[go_sem,reduceCtorEq,↓reduceIte,nA,nB,nC,nD,nE,iA,iB,iC,iD,iE,iF,hk,hL.low1,k1,k2.low1,hone])
   | (refine W.step (next_w (by simp only[go_sem,hk,ho]<;>rfl)) ?_;rintro _ ⟨p2,rfl,a1,a2,a3⟩;simp only[go_sem,reduceCtorEq,↓reduceIte,nA,nB,nC,nD,nE,iA,iB,iC,iD,iE,iF,hk,hL.low1,k1,k2.low1,hone])
   | (refine W.step (minus_w (by simp only[go_sem,hk,ho]<;>rfl)) ?_;rintro _ ⟨p2,rfl,a1,a2,a3⟩;simp only[go_sem,reduceCtorEq,↓reduceIte,nA,nB,nC,nD,nE,iA,iB,iC,iD,iE,iF,hk,hL.low1,k1,k2.low1,hone])
   | (refine W.step (plain_w (by simp only[go_sem,hk,ho]<;>rfl)) ?_;rintro _ ⟨p2,n2,l2,c2,rfl,a1,a2⟩;simp only[go_sem,reduceCtorEq,↓reduceIte,nA,nB,nC,nD,nE,iA,iB,iC,iD,iE,iF,hk,hL.low1,k1,k2.low1,hone])
   | (refine W.step (number_w (by simp only[go_sem,hk,ho]<;>rfl)) ?_;rintro _ ⟨p2,n2,l2,c2,rfl,a1,a2⟩;simp only[go_sem,reduceCtorEq,↓reduceIte,nA,nB,nC,nD,nE,iA,iB,iC,iD,iE,iF,hk,hL.low1,k1,k2.low1,hone])
   | (refine W.step (ahead_w _ _ (by simp only[go_sem,hk,ho]<;>rfl)) ?_;rintro _ ⟨b2,rfl,a1⟩;simp only[go_sem,reduceCtorEq,↓reduceIte,nA,nB,nC,nD,nE,iA,iB,iC,iD,iE,iF,hk,hL.low1,k1,k2.low1,hone])
   | (refine W.step (pattern_w (by simp only[go_sem,hk,ho]<;>rfl)) ?_;rintro _ ⟨b2,rfl,a1⟩;simp only[go_sem,reduceCtorEq,↓reduceIte,nA,nB,nC,nD,nE,iA,iB,iC,iD,iE,iF,hk,hL.low1,k1,k2.low1,hone])
   | (refine W.step (argument_w (by simp only[go_sem,hk,ho]<;>rfl)) ?_;rintro _ ⟨b2,rfl,a1⟩;simp only[go_sem,reduceCtorEq,↓reduceIte,nA,nB,nC,nD,nE,iA,iB,iC,iD,iE,iF,hk,hL.low1,k1,k2.low1,hone])
   | (refine W.step (atomic_w (by simp only[go_sem,hk,ho]<;>rfl)) ?_;rintro _ ⟨b2,rfl,a1⟩;simp only[go_sem,reduceCtorEq,↓reduceIte,nA,nB,nC,nD,nE,iA,iB,iC,iD,iE,iF,hk,hL.low1,k1,k2.low1,hone])
   | (refine W.step (operator_w (by simp only[go_sem,hk,ho]<;>rfl)) ?_;rintro _ ⟨b2,rfl,a1⟩;simp only[go_sem,reduceCtorEq,↓reduceIte,nA,nB,nC,nD,nE,iA,iB,iC,iD,iE,iF,hk,hL.low1,k1,k2.low1,hone])
   | (refine W.step (text_w _ (by simp only[go_sem,hk,ho]<;>rfl)) ?_;rintro _ ⟨p2,x2,rfl,a1,a2,a3⟩;simp only[go_sem,reduceCtorEq,↓reduceIte,nA,nB,nC,nD,nE,iA,iB,iC,iD,iE,iF,hk,hL.low1,k1,k2.low1,hone])
   | (refine W.step (want_w _ (by decide) (by simp only[go_sem,hk,ho]<;>rfl)) ?_;rintro _ ⟨p2,x2,rfl,a1,a2,a3⟩;simp only[go_sem,reduceCtorEq,↓reduceIte,nA,nB,nC,nD,nE,iA,iB,iC,iD,iE,iF,hk,hL.low1,k1,k2.low1,hone])
   | (refine W.step (fails_w _ (by simp only[go_sem,hk,ho]<;>rfl)) ?_;rintro _ ⟨p2,rfl,a1,a2,a3,a4⟩;simp only[go_sem,reduceCtorEq,↓reduceIte,nA,nB,nC,nD,nE,iA,iB,iC,iD,iE,iF,hk,hL.low1,k1,k2.low1,hone]))
  ·have hlv2:=@PS.lv_m pc (by assumption)
   exact⟨_,by omega,_,xs++[pc.peek.text],v',A',N',rfl,rfl,k2,(by repeat (first|exact PS.le_refl|assumption|(apply PS.le_trans;assumption))),by simp;omega⟩
  ·have hlv2:=@PS.lv_m pc (by assumption)
   exact⟨_,by omega,_,xs++[pc.peek.text],v',A',N',rfl,rfl,k2,(by repeat (first|exact PS.le_refl|assumption|(apply PS.le_trans;assumption))),by simp;omega⟩
  ·exact⟨pc,xs,v,A,N,rfl,hL,hle,hsum⟩
 ·rintro q ⟨pc,xs,v,A,N,rfl,hL,hle,hsum⟩
  have hone:=hL.one1
  simp only[go_sem,reduceCtorEq,↓reduceIte,nA,nB,nC,nD,nE,iA,iB,iC,iD,iE,iF,hl1,hk,hL.low1,hone,hL.len1]
  repeat' (first
   | (refine W.ifc (fun d=>?_) (fun d=>?_)<;>(try have dl:=PS.is_lv d)<;>(try have dl:=PS.isk_lv d (by decide))<;>(try have dl:=a1 d)<;>(try have dl:=PS.peek_lv d (by decide))<;>(try have dm:=PS.m_ok d)<;>(try have dm:=PS.m_bad d)<;>simp only[go_sem,reduceCtorEq,↓reduceIte,nA,nB,nC,nD,nE,iA,iB,iC,iD,iE,iF,d,hk,Bool.true_or,Bool.false_or,Bool.false_and,Bool.true_and,hL.low1,hone,hL.len1])
   | (refine W.step (is_w _ (by simp only[go_sem,hk,ho]<;>rfl)) ?_;rintro _ rfl;simp only[go_sem,reduceCtorEq,↓reduceIte,nA,nB,nC,nD,nE,iA,iB,iC,iD,iE,iF,hk,hL.low1,hone,hL.len1])
   | (refine W.step (isk_w _ (by simp only[go_sem,hk,ho]<;>rfl)) ?_;rintro _ rfl;simp only[go_sem,reduceCtorEq,↓reduceIte,nA,nB,nC,nD,nE,iA,iB,iC,iD,iE,iF,hk,hL.low1,hone,hL.len1])
   | (refine W.step (peek_w (by simp only[go_sem,hk,ho]<;>rfl)) ?_;rintro _ rfl;simp only[go_sem,reduceCtorEq,↓reduceIte,nA,nB,nC,nD,nE,iA,iB,iC,iD,iE,iF,hk,hL.low1,hone,hL.len1])
   | (refine W.step (next_w (by simp only[go_sem,hk,ho]<;>rfl)) ?_;rintro _ ⟨p2,rfl,a1,a2,a3⟩;simp only[go_sem,reduceCtorEq,↓reduceIte,nA,nB,nC,nD,nE,iA,iB,iC,iD,iE,iF,hk,hL.low1,hone,hL.len1])
   | (refine W.step (minus_w (by simp only[go_sem,hk,ho]<;>rfl)) ?_;rintro _ ⟨p2,rfl,a1,a2,a3⟩;simp only[go_sem,reduceCtorEq,↓reduceIte,nA,nB,nC,nD,nE,iA,iB,iC,iD,iE,iF,hk,hL.low1,hone,hL.len1])
   | (refine W.step (plain_w (by simp only[go_sem,hk,ho]<;>rfl)) ?_;rintro _ ⟨p2,n2,l2,c2,rfl,a1,a2⟩;simp only[go_sem,reduceCtorEq,↓reduceIte,nA,nB,nC,nD,nE,iA,iB,iC,iD,iE,iF,hk,hL.low1,hone,hL.len1])
   | (refine W.step (number_w (by simp only[go_sem,hk,ho]<;>rfl)) ?_;rintro _ ⟨p2,n2,l2,c2,rfl,a1,a2⟩;simp only[go_sem,reduceCtorEq,↓reduceIte,nA,nB,nC,nD,nE,iA,iB,iC,iD,iE,iF,hk,hL.low1,hone,hL.len1])
   | (refine W.step (ahead_w _ _ (by simp only[go_sem,hk,ho]<;>rfl)) ?_;rintro _ ⟨b2,rfl,a1⟩;simp only[go_sem,reduceCtorEq,↓reduceIte,nA,nB,nC,nD,nE,iA,iB,iC,iD,iE,iF,hk,hL.low1,hone,hL.len1])
   | (refine W.step (pattern_w (by simp only[go_sem,hk,ho]<;>rfl)) ?_;rintro _ ⟨b2,rfl,a1⟩;simp only[go_sem,reduceCtorEq,↓reduceIte,nA,nB,nC,nD,nE,iA,iB,iC,iD,iE,iF,hk,hL.low1,hone,hL.len1])
   | (refine W.step (argument_w (by simp only[go_sem,hk,ho]<;>rfl)) ?_;rintro _ ⟨b2,rfl,a1⟩;simp only[go_sem,reduceCtorEq,↓reduceIte,nA,nB,nC,nD,nE,iA,iB,iC,iD,iE,iF,hk,hL.low1,hone,hL.len1])
   | (refine W.step (atomic_w (by simp only[go_sem,hk,ho]<;>rfl)) ?_;rintro _ ⟨b2,rfl,a1⟩;simp only[go_sem,reduceCtorEq,↓reduceIte,nA,nB,nC,nD,nE,iA,iB,iC,iD,iE,iF,hk,hL.low1,hone,hL.len1])
   | (refine W.step (operator_w (by simp only[go_sem,hk,ho]<;>rfl)) ?_;rintro _ ⟨b2,rfl,a1⟩;simp only[go_sem,reduceCtorEq,↓reduceIte,nA,nB,nC,nD,nE,iA,iB,iC,iD,iE,iF,hk,hL.low1,hone,hL.len1])
   | (refine W.step (text_w _ (by simp only[go_sem,hk,ho]<;>rfl)) ?_;rintro _ ⟨p2,x2,rfl,a1,a2,a3⟩;simp only[go_sem,reduceCtorEq,↓reduceIte,nA,nB,nC,nD,nE,iA,iB,iC,iD,iE,iF,hk,hL.low1,hone,hL.len1])
   | (refine W.step (want_w _ (by decide) (by simp only[go_sem,hk,ho]<;>rfl)) ?_;rintro _ ⟨p2,x2,rfl,a1,a2,a3⟩;simp only[go_sem,reduceCtorEq,↓reduceIte,nA,nB,nC,nD,nE,iA,iB,iC,iD,iE,iF,hk,hL.low1,hone,hL.len1])
   | (refine W.step (fails_w _ (by simp only[go_sem,hk,ho]<;>rfl)) ?_;rintro _ ⟨p2,rfl,a1,a2,a3,a4⟩;simp only[go_sem,reduceCtorEq,↓reduceIte,nA,nB,nC,nD,nE,iA,iB,iC,iD,iE,iF,hk,hL.low1,hone,hL.len1]))
  all_goals
   refine W.step (hexpr _ _ _ (by simp only[go_sem,hk,ho]<;>rfl) (by omega)) ?_
   rintro _ ⟨p2,r2,rfl,a1,a2,a3⟩
   obtain⟨B,hB,hfz⟩:=lam_fz hL r2 p.peek.line p.peek.col
   rw[Xp.cells_eq] at hfz
   simp only[go_sem,reduceCtorEq,↓reduceIte,nA,nB,nC,nD,nE,iA,iB,iC,iD,iE,iF,hk,hL.low1,hone,hfz]
   refine⟨_,Xp.gen .lam [] 0 xs [r2] [] [] p.peek.line p.peek.col,by rw[back_ps hB (Xp.alow _)],(by repeat (first|exact PS.le_refl|assumption|(apply PS.le_trans;assumption))),by omega,.inr ?_⟩
   show 1+xs.length+(Xp.sz r2+0)+0+0+_+5≤_
   omega
end Go.Am
namespace Go.Am
open Go
theorem Loc2.init1 {A:Nat→Option (List AV)} {n0:Nat} {el e2:El} {y:AV} {cy:List AV} (hc:y.cells=cy) (hy:Ele el y):Loc2 A n0 (upd A n0 (some cy)) (n0+1) el (.os n0 el 1) [y] e2 .nsl []:=by
 refine⟨some n0,none,⟨by intro x hx;rw[List.mem_singleton.1 hx];exact hy,.inr ⟨n0,cy,rfl,upd_same,?_,Nat.lt_succ_self _,rfl⟩⟩,Gr.nil,fun a ha=>⟨by injection ha with ha;omega,by simp⟩,(fun a h=>nomatch h),old_upd Old.refl (Nat.le_refl _),Nat.le_succ _,(fun h=>by cases h),fun _=>rfl⟩
 have:cy.length=el.size:=by rw[←hc];exact hy.elem.2.1
 rw[show [y].flatMap AV.cells=cy by simp[hc]]
 exact List.take_of_length_le (by simp[this])
theorem rop_ele (o:Rop):Ele (.st 4) o.bv:=by
 cases o with
 | mk nm l c x=>exact ele_of rfl (by rfl) rfl (by simp[AV.flatc])
theorem Xp.row_av {a:Xp} {ops:List Rop}:(Xp.row a ops).av=.agg [.i .i64 (-1),.s [],.i .i64 0,.nsl,.sl (.st 9) (a.av::ops.map (fun o=>o.x.av)),.nsl,lst (.st 4) (ops.map Rop.bv),.i .i64 0,.i .i64 0]:=by
 show AV.agg _=_
 rw[Rop.xs_map,Rop.bs_map]
theorem expr_step (n:Nat) (hop:OperandL n):ExprL n:=by
 intro p s k ho hn
 have hk:=obj_lt ho
 have hlv:=@PS.lv_le p
 rw[XpW1,w_call (f:=107) rfl]
 simp only[go_sem,reduceCtorEq,↓reduceIte,nA,nB,nC,nD,nE,iA,iB,iC,iD,iE,iF,hk]
 refine W.step (hop _ _ _ (by simp only[go_sem,hk,ho]<;>rfl) (by omega)) ?_
 rintro _ ⟨p2,e,rfl,a1,a2,a3⟩
 simp only[go_sem,reduceCtorEq,↓reduceIte,nA,nB,nC,nD,nE,iA,iB,iC,iD,iE,iF,hk]
 repeat' (first
   | (refine W.ifc (fun d=>?_) (fun d=>?_)<;>(try have dl:=PS.is_lv d)<;>(try have dl:=PS.isk_lv d (by decide))<;>(try have dl:=a1 d)<;>(try have dl:=PS.peek_lv d (by decide))<;>(try have dm:=PS.m_ok d)<;>(try have dm:=PS.m_bad d)<;>simp only[go_sem,reduceCtorEq,↓reduceIte,nA,nB,nC,nD,nE,iA,iB,iC,iD,iE,iF,d,hk,Bool.true_or,Bool.false_or,Bool.false_and,Bool.true_and])
   | (refine W.step (is_w _ (by simp only[go_sem,hk,ho]<;>rfl)) ?_;rintro _ rfl;simp only[go_sem,reduceCtorEq,↓reduceIte,nA,nB,nC,nD,nE,iA,iB,iC,iD,iE,iF,hk])
   | (refine W.step (isk_w _ (by simp only[go_sem,hk,ho]<;>rfl)) ?_;rintro _ rfl;simp only[go_sem,reduceCtorEq,↓reduceIte,nA,nB,nC,nD,nE,iA,iB,iC,iD,iE,iF,hk])
   | (refine W.step (peek_w (by simp only[go_sem,hk,ho]<;>rfl)) ?_;rintro _ rfl;simp only[go_sem,reduceCtorEq,↓reduceIte,nA,nB,nC,nD,nE,iA,iB,iC,iD,iE,iF,hk])
   | (refine W.step (next_w (by simp only[go_sem,hk,ho]<;>rfl)) ?_;rintro _ ⟨p2,rfl,a1,a2,a3⟩;simp only[go_sem,reduceCtorEq,↓reduceIte,nA,nB,nC,nD,nE,iA,iB,iC,iD,iE,iF,hk])
   | (refine W.step (minus_w (by simp only[go_sem,hk,ho]<;>rfl)) ?_;rintro _ ⟨p2,rfl,a1,a2,a3⟩;simp only[go_sem,reduceCtorEq,↓reduceIte,nA,nB,nC,nD,nE,iA,iB,iC,iD,iE,iF,hk])
   | (refine W.step (plain_w (by simp only[go_sem,hk,ho]<;>rfl)) ?_;rintro _ ⟨p2,n2,l2,c2,rfl,a1,a2⟩;simp only[go_sem,reduceCtorEq,↓reduceIte,nA,nB,nC,nD,nE,iA,iB,iC,iD,iE,iF,hk])
   | (refine W.step (number_w (by simp only[go_sem,hk,ho]<;>rfl)) ?_;rintro _ ⟨p2,n2,l2,c2,rfl,a1,a2⟩;simp only[go_sem,reduceCtorEq,↓reduceIte,nA,nB,nC,nD,nE,iA,iB,iC,iD,iE,iF,hk])
   | (refine W.step (ahead_w _ _ (by simp only[go_sem,hk,ho]<;>rfl)) ?_;rintro _ ⟨b2,rfl,a1⟩;simp only[go_sem,reduceCtorEq,↓reduceIte,nA,nB,nC,nD,nE,iA,iB,iC,iD,iE,iF,hk])
   | (refine W.step (pattern_w (by simp only[go_sem,hk,ho]<;>rfl)) ?_;rintro _ ⟨b2,rfl,a1⟩;simp only[go_sem,reduceCtorEq,↓reduceIte,nA,nB,nC,nD,nE,iA,iB,iC,iD,iE,iF,hk])
   | (refine W.step (argument_w (by simp only[go_sem,hk,ho]<;>rfl)) ?_;rintro _ ⟨b2,rfl,a1⟩;simp only[go_sem,reduceCtorEq,↓reduceIte,nA,nB,nC,nD,nE,iA,iB,iC,iD,iE,iF,hk])
   | (refine W.step (atomic_w (by simp only[go_sem,hk,ho]<;>rfl)) ?_;rintro _ ⟨b2,rfl,a1⟩;simp only[go_sem,reduceCtorEq,↓reduceIte,nA,nB,nC,nD,nE,iA,iB,iC,iD,iE,iF,hk])
   | (refine W.step (operator_w (by simp only[go_sem,hk,ho]<;>rfl)) ?_;rintro _ ⟨b2,rfl,a1⟩;simp only[go_sem,reduceCtorEq,↓reduceIte,nA,nB,nC,nD,nE,iA,iB,iC,iD,iE,iF,hk])
   | (refine W.step (text_w _ (by simp only[go_sem,hk,ho]<;>rfl)) ?_;rintro _ ⟨p2,x2,rfl,a1,a2,a3⟩;simp only[go_sem,reduceCtorEq,↓reduceIte,nA,nB,nC,nD,nE,iA,iB,iC,iD,iE,iF,hk])
   | (refine W.step (want_w _ (by decide) (by simp only[go_sem,hk,ho]<;>rfl)) ?_;rintro _ ⟨p2,x2,rfl,a1,a2,a3⟩;simp only[go_sem,reduceCtorEq,↓reduceIte,nA,nB,nC,nD,nE,iA,iB,iC,iD,iE,iF,hk])
   | (refine W.step (fails_w _ (by simp only[go_sem,hk,ho]<;>rfl)) ?_;rintro _ ⟨p2,rfl,a1,a2,a3,a4⟩;simp only[go_sem,reduceCtorEq,↓reduceIte,nA,nB,nC,nD,nE,iA,iB,iC,iD,iE,iF,hk]))
 ·
  have hmle:=@PS.m_le p2
  obtain⟨l1,hl1⟩:∃ l1:List Ob,l1=[.cells [.i .i64 0,.s [],.i .i64 0,.nsl,.nsl,.nsl,.nsl,.i .i64 0,.i .i64 0],.cells e.av.cells]:=⟨_,rfl⟩
  have hdl:p2.lv=1:=by assumption
  have hlv2:=@PS.lv_m p2 hdl
  refine W.step (W.loop (L:=l107_0) (Q:=fun q=>∃ (pc:PS) (os:List Rop) (v w:AV) (A:Nat→Option (List AV)) (N:Nat),q=(.exit 0,[(0,.ref k 0),(2,.ref (cnt s) 0),(4,.ref (cnt s+2) 0),(16,.b false)],wa (ex (setOb s k pc.ob) (l1++[.cells [.i .i64 (-1),.s [],.i .i64 0,.nsl,v,.nsl,w,.i .i64 0,.i .i64 0]])) A N)∧Loc2 s.arr s.nxt A N (.st 9) v (e.av::os.map (fun o=>o.x.av)) (.st 4) w (os.map Rop.bv)∧p2.le pc∧Rop.szs os+20*pc.m≤20*p2.m) rfl (fun i en t=>∃ (pc:PS) (os:List Rop) (v w:AV) (A:Nat→Option (List AV)) (N:Nat),i=pc.m∧en=[(0,.ref k 0),(2,.ref (cnt s) 0),(4,.ref (cnt s+2) 0)]∧t=wa (ex (setOb s k pc.ob) (l1++[.cells [.i .i64 (-1),.s [],.i .i64 0,.nsl,v,.nsl,w,.i .i64 0,.i .i64 0]])) A N∧Loc2 s.arr s.nxt A N (.st 9) v (e.av::os.map (fun o=>o.x.av)) (.st 4) w (os.map Rop.bv)∧p2.le pc∧Rop.szs os+20*pc.m≤20*p2.m) ?_ _ _ _ ⟨p2,[],_,.nsl,_,_,rfl,rfl,by rw[hl1,Xp.cells_eq];rfl,Loc2.init1 (Xp.cells_eq e) e.ele,PS.le_refl,by simp[Rop.szs]⟩) ?_
  ·rintro i en t ⟨pc,os,v,w,A,N,rfl,rfl,rfl,hL,hle,hsum⟩
   have hlen:=Rop.szs_len os
   rw[←Rop.szs_sum] at hlen
   have h1:=hL.one1
   have h2:=hL.one2
   simp only[go_sem,reduceCtorEq,↓reduceIte,nA,nB,nC,nD,nE,iA,iB,iC,iD,iE,iF,hl1,hk]
   refine W.step (isk_w (p:=pc) _ (by simp only[go_sem,hk,ho]<;>rfl)) ?_
   rintro _ rfl
   cases hb:pc.isk 3 with
   | false =>
    simp only[go_sem,reduceCtorEq,↓reduceIte,nA,nB,nC,nD,nE,iA,iB,iC,iD,iE,iF,hl1,hk,hb]
    exact⟨pc,os,v,w,A,N,rfl,hL,hle,hsum⟩
   | true =>
    have dl:=PS.isk_lv hb (by decide)
    have hlv3:=@PS.lv_m pc dl
    simp only[go_sem,reduceCtorEq,↓reduceIte,nA,nB,nC,nD,nE,iA,iB,iC,iD,iE,iF,hl1,hk,hb]
    refine W.step (next_w (p:=pc) (by simp only[go_sem,hk,ho]<;>rfl)) ?_
    rintro _ ⟨p3,rfl,b1,b2,b3⟩
    obtain⟨w',A',N',k1,k2⟩:=hL.push2 (y:=.agg [.s pc.peek.text,.nsl,.i .i64 pc.peek.line,.i .i64 pc.peek.col]) (cy:=[.s pc.peek.text,.nsl,.i .i64 pc.peek.line,.i .i64 pc.peek.col]) rfl (rop_ele (.mk pc.peek.text pc.peek.line pc.peek.col (.gen .zero [] 0 [] [] [] [] 0 0))) (by simp;unfold most;omega)
    have h3:=k2.one2
    simp only[go_sem,reduceCtorEq,↓reduceIte,nA,nB,nC,nD,nE,iA,iB,iC,iD,iE,iF,hl1,hk,h1,h2,hL.low1,hL.low2,k1,k2.low1,k2.low2,h3]
    refine W.step (hop p3 _ _ (by simp only[go_sem,hk,ho]<;>rfl) (by have:=PS.le_m (PS.le_trans hle b1);omega)) ?_
    rintro _ ⟨p4,r4,rfl,c1,c2,c3⟩
    obtain⟨v',A2,N2,j1,j2⟩:=k2.push1 (y:=r4.av) (cy:=r4.av.cells) rfl r4.ele (by simp;unfold most;omega)
    rw[Xp.cells_eq] at j1
    have h4:=j2.one1
    simp only[go_sem,reduceCtorEq,↓reduceIte,nA,nB,nC,nD,nE,iA,iB,iC,iD,iE,iF,hl1,hk,h1,h2,h3,h4,k2.low1,k2.low2,j1,j2.low1,j2.low2]
    exact⟨p4.m,by omega,p4,os++[.mk pc.peek.text pc.peek.line pc.peek.col r4],v',w',A2,N2,rfl,rfl,by simpa[Rop.x,Rop.bv] using j2,(by repeat (first|exact PS.le_refl|assumption|(apply PS.le_trans;assumption))),by rw[Rop.szs_sum] at hsum ⊢;simp[Rop.sz];omega⟩
  ·rintro q ⟨pc,os,v,w,A,N,rfl,hL,hle,hsum⟩
   have h1:=hL.one1
   have h2:=hL.one2
   obtain⟨A1,A2,j1,j2,j3⟩:=hL.fin
   simp only[go_sem,reduceCtorEq,↓reduceIte,nA,nB,nC,nD,nE,iA,iB,iC,iD,iE,iF,hl1,hk,h1,h2,hL.low1,hL.low2,j1,j2]
   refine⟨pc,Xp.row e os,by rw[back_ps j3 (by simp[alow_agg,alow_tup,alowL_cons,alowL_nil,alow_i,alow_s,alow_b,alow_sl,alow_nsl,lst_alow]),Xp.row_av,lst_cons],(by repeat (first|exact PS.le_refl|assumption|(apply PS.le_trans;assumption))),by have:=PS.le_m hle;omega,?_⟩
   have h5:=PS.le_m hle
   show 1+e.sz+Rop.szs os≤1∨1+e.sz+Rop.szs os+_+4≤_
   omega
 ·exact⟨_,_,rfl,(by repeat (first|exact PS.le_refl|assumption|(apply PS.le_trans;assumption))),by omega,by omega⟩
end Go.Am
namespace Go.Am
open Go
theorem FzL.use {m A v x D} (h:FzL m A [v] [x] D) (n:Nat) (s:St) (M:Nat):frz (n+m) v (wa s A M)=some (x,wa s (clr A D) M):=by
 have:=h n s A M fun _ _=>rfl
 rw[frzAll_cons] at this
 cases hf:frz (n+m) v (wa s A M) with
 | none=>rw[hf] at this;cases this
 | some p =>
  rw[hf] at this
  obtain⟨y,s1⟩:=p
  injection this with this
  injection this with h1 h2
  injection h1 with h1
  rw[←h1,←h2]
theorem na_wx {u:St} {A N cs}:(newAr (wa u A N) cs).arr N=some cs:=upd_same
theorem na_wx2 {u:St} {A N cs ds}:(newAr (newAr (wa u A N) cs) ds).arr N=some cs:=(upd_other (Nat.ne_of_lt (Nat.lt_succ_self N))).trans upd_same
attribute [go_sem] na_wx na_wx2
theorem back_hi {s s2:St} {i el n} (h:s.nxt≤i):back s (.os i el n) s2=s2:=if_neg fun hc=>by
 have:=hc.2.1
 rw[alow_os] at this
 have:=of_decide_eq_true this
 omega
theorem back_ch {s s2:St} {v:AV} {a:Nat} (h:a<s.nxt) (hn:s2.arr a≠s.arr a):back s v s2=s2:=if_neg fun hc=>hn (hc.1 a h)
def NR (m:Nat) (A0:Nat→Option (List AV)) (n0:Nat) (A:Nat→Option (List AV)) (N:Nat) (el:El) (v:AV) (xs:List AV) (D:List Nat):Prop :=
 (∀ x∈xs,Ele el x)∧Old n0 A A0∧n0≤N∧(∀ a∈D,n0≤a∧a<N)∧((v=.nsl∧xs=[]∧D=[])∨∃ a cs E,v=.os a el xs.length∧A a=some cs∧cs.length=xs.length*el.size∧FzL m A cs (xs.flatMap AV.cells) E∧a∉E∧D=a::E∧xs≠[])
section
variable {m:Nat} {A0 A:Nat→Option (List AV)} {n0 N:Nat} {el:El} {v:AV} {xs:List AV} {D:List Nat}
theorem NR.nil:NR m A n0 A n0 el .nsl [] []:=⟨(fun x h=>nomatch h),Old.refl,Nat.le_refl _,(fun a h=>nomatch h),.inl ⟨rfl,rfl,rfl⟩⟩
theorem NR.low (h:NR m A0 n0 A N el v xs D) (n:Nat):v.low n=true:=by
 obtain⟨-,-,-,-,⟨rfl,-⟩|⟨a,cs,E,rfl,-⟩⟩:=h<;>rfl
theorem NR.one (h:NR m A0 n0 A N el v xs D):v.cells=[v]:=by
 obtain⟨-,-,-,-,⟨rfl,-⟩|⟨a,cs,E,rfl,-⟩⟩:=h<;>rfl
theorem NR.len (h:NR m A0 n0 A N el v xs D):alen false v=some (.i .i64 (xs.length:Nat)):=by
 obtain⟨-,-,-,-,⟨rfl,rfl,-⟩|⟨a,cs,E,rfl,-⟩⟩:=h<;>rfl
theorem NR.fz (h:NR m A0 n0 A N el v xs D) (hm:1≤m):FzL (m+1) A [v] [lst el xs] D:=by
 obtain⟨h0,-,-,-,⟨rfl,rfl,rfl⟩|⟨a,cs,E,rfl,h1,h2,h3,h4,rfl,h5⟩⟩:=h
 ·exact (show FzL (m - 1+1+1) A [.nsl] [.nsl] [] from ((FzL.one rfl).ups _).up |> fun h=>by rw[show m - 1+1+1=1+(m - 1)+1 by omega];exact h) |> fun h=>by rw[show m+1=m - 1+1+1 by omega];exact h
 ·have hch:=chunk_flat xs [] (fun y hy=>(h0 y hy).elem)
  rw[List.append_nil] at hch
  cases xs with
  | nil=>exact (h5 rfl).elim
  | cons x xs=>exact FzL.os (by rw[List.take_of_length_le (by omega)];exact h3) h1 h4 hch
theorem NR.old (h:NR m A0 n0 A N el v xs D):Old n0 (clr A D) A0:=clr_old h.2.1 fun a ha=>(h.2.2.2.1 a ha).1
theorem NR.mono {A1 N1} (h:NR m A0 n0 A N el v xs D) (hA:∀ a,a<N→A1 a=A a) (hN:N≤N1):NR m A0 n0 A1 N1 el v xs D:=by
 obtain⟨h0,h1,h2,h3,h4⟩:=h
 refine⟨h0,fun a ha=>(hA a (by omega)).trans (h1 a ha),by omega,fun a ha=>⟨(h3 a ha).1,by have:=(h3 a ha).2;omega⟩,?_⟩
 rcases h4 with h4|⟨a,cs,E,rfl,j1,j2,j3,j4,rfl,j5⟩
 ·exact .inl h4
 ·exact .inr ⟨a,cs,E,rfl,(hA a (h3 a (List.mem_cons_self ..)).2).trans j1,j2,j3.mono fun b hb=>hA b (h3 b (List.mem_cons_of_mem _ hb)).2,j4,rfl,j5⟩
theorem NR.push {A1:Nat→Option (List AV)} {N1:Nat} {c:List AV} {x:AV} {Dc:List Nat} (h:NR m A0 n0 A N el v xs D) (hA:∀ a,a<N→A1 a=A a) (hN:N≤N1) (hc:FzL m A1 c x.cells Dc) (hD:∀ a∈Dc,N≤a∧a<N1) (hlow:AV.lowL 0 c=true) (hlen:c.length=el.size) (hx:Ele el x) (hm:xs.length+1≤most) :
  ∃ v' A' N' D',(∀ u,agrow (newAr (wa u A1 N1) c) el 1 c v=some (v',wa u A' N'))∧NR m A0 n0 A' N' el v' (xs++[x]) D'∧N1≤N'∧(∀ a,a<N→a∉D→A' a=A a)∧(∀ a∈D',a∈D∨N≤a)∧∃ i n,v'=.os i el n∧N1≤i:=by
 have h1:=h.mono hA hN
 have hnN:=h.2.2.1
 obtain⟨h0,g1,g2,g3,g4⟩:=h1
 have hall:∀ y∈xs++[x],Ele el y:=fun y hy=>(List.mem_append.1 hy).elim (h0 y) fun hy=>by rw[List.mem_singleton.1 hy];exact hx
 rcases g4 with ⟨rfl,rfl,rfl⟩|⟨a,cs,E,rfl,j1,j2,j3,j4,rfl,j5⟩
 ·refine⟨.os (N1+1) el 1,upd (upd A1 N1 (some c)) (N1+1) (some c),N1+2,(N1+1)::Dc,fun u=>?_,⟨hall,?_,by omega,fun a ha=>?_,.inr ⟨N1+1,c,Dc,rfl,upd_same,by rw[hlen];simp,?_,fun hh=>by have:=(hD _ hh).2;omega,rfl,by simp⟩⟩,by omega,fun a ha _=>?_,fun a ha=>.inr ((List.mem_cons.1 ha).elim (fun h=>by omega) fun h=>(hD a h).1),_,_,rfl,Nat.le_succ _⟩
  ·unfold agrow
   dsimp only
   rw[if_neg (by simp),if_pos ⟨by simp at hm ⊢;omega,hlow⟩]
   rfl
  ·exact old_upd (old_upd g1 (by omega)) (by omega)
  ·rcases List.mem_cons.1 ha with rfl|ha
   ·omega
   ·have:=hD a ha;omega
  ·simp only[List.nil_append,List.flatMap_cons,List.flatMap_nil,List.append_nil]
   exact hc.mono fun b hb=>by have:=hD b hb;rw[upd_other (by omega),upd_other (by omega)]
  ·rw[upd_other (by omega),upd_other (by omega),hA a ha]
 ·have ha0:=g3 a (List.mem_cons_self ..)
  refine⟨.os (N1+1) el (xs.length+1),upd (upd (upd A1 N1 (some c)) a none) (N1+1) (some (cs++c)),N1+2,(N1+1)::(E++Dc),fun u=>?_,⟨hall,?_,by omega,fun b hb=>?_,.inr ⟨N1+1,cs++c,E++Dc,by rw[List.length_append];rfl,upd_same,by rw[List.length_append,j2,hlen,List.length_append,Nat.add_mul];simp,?_,fun hh=>?_,rfl,by simp⟩⟩,by omega,fun b hb hne=>?_,fun b hb=>(List.mem_cons.1 hb).elim (fun h=>.inr (by omega)) fun h=>(List.mem_append.1 h).elim (fun h=>.inl (List.mem_cons_of_mem _ h)) fun h=>.inr (hD b h).1,_,_,rfl,Nat.le_succ _⟩
  ·unfold agrow
   show (match (upd A1 N1 (some c)) a with|some cs=>_|none=>_)=_
   rw[upd_other (by omega),j1]
   dsimp only
   rw[if_pos ⟨rfl,by omega,hm,hlow⟩,List.take_of_length_le (by omega)]
   rfl
  ·exact old_upd (old_upd (old_upd g1 (by omega)) (by omega)) (by omega)
  ·rcases List.mem_cons.1 hb with rfl|hb
   ·omega
   ·rcases List.mem_append.1 hb with hb|hb
    ·have:=g3 b (List.mem_cons_of_mem _ hb);omega
    ·have:=hD b hb;omega
  ·rw[List.flatMap_append]
   refine FzL.app (j3.mono fun b hb=>?_) ((hc.mono fun b hb=>?_) |> fun h=>by simpa using h) fun b hb hb2=>?_
   ·have:=g3 b (List.mem_cons_of_mem _ hb)
    rw[upd_other (by omega),upd_other (fun e=>j4 (by rw[←e];exact hb)),upd_other (by omega)]
   ·have:=hD b hb
    rw[upd_other (by omega),upd_other (by rintro rfl;have:=h.2.2.2.1 b (List.mem_cons_self ..);omega),upd_other (by omega)]
   ·have:=hD b hb
    have:=h.2.2.2.1 b (List.mem_cons_of_mem _ hb2)
    omega
  ·rcases List.mem_append.1 hh with hh|hh
   ·have:=g3 _ (List.mem_cons_of_mem _ hh);omega
   ·have:=hD _ hh;omega
  ·rw[upd_other (by omega),upd_other (fun e=>hne (by rw[e];exact List.mem_cons_self ..)),upd_other (by omega),hA b hb]
end
end Go.Am
namespace Go.Am
open Go
abbrev BodyL (n:Nat):Prop:=∀ (p:PS) (s:St) (k:Nat) (sg:Str),obj s k=some p.ob→p.m<n→W (C F0 X0 65 [.ref k 0,.s sg] s) fun q=>∃ (p':PS) (rs:List Rhs),q=(lst (.st 10) (rs.map Rhs.av),setOb s k p'.ob)∧p.le p'∧p'.m≤p.m∧((rs.map Rhs.sz).sum≤2∨(rs.map Rhs.sz).sum+20*p'.m+1≤20*p.m)
theorem xp_finc (r:Xp):r.av.cells.all AV.scal=true:=(flat_scal (xs:=[r.av]) (el:=.st 9) (by intro x hx;rw[List.mem_singleton.1 hx];exact r.ele)) |> fun h=>by simpa using h
theorem rhs_fz0 (r:Xp) (A):FzL 2 A (.nsl::r.av.cells) (Rhs.mk [] r).av.cells []:=(FzL.scal (by simp[xp_finc r];rfl)).up
theorem rhs_fz1 {A a} (g r:Xp) (ha:A a=some g.av.cells):FzL 2 A (.os a (.st 9) 1::r.av.cells) (Rhs.mk [g] r).av.cells [a]:=by
 have h1:FzL 2 A [.os a (.st 9) 1] [.sl (.st 9) [g.av]] [a]:=FzL.arr (xs:=[g.av]) (by rw[ha];simp) (by intro x hx;rw[List.mem_singleton.1 hx];exact g.ele)
 have h2:FzL 2 A r.av.cells r.av.cells []:=(FzL.scal (xp_finc r)).up
 exact h1.app h2 (by simp)
theorem Rhs.szs_mk (g r:Xp):(Rhs.mk [g] r).sz=1+(g.sz+0)+r.sz:=(rfl)
theorem body_step (n:Nat) (hexpr:ExprL n):BodyL n:=by
 intro p s k sg ho hn
 have hk:=obj_lt ho
 have hlv:=@PS.lv_le p
 rw[w_call (f:=65) rfl]
 simp only[go_sem,reduceCtorEq,↓reduceIte,nA,nB,nC,nD,nE,iA,iB,iC,iD,iE,iF,hk]
 repeat' (first
   | (refine W.ifc (fun d=>?_) (fun d=>?_)<;>(try have dl:=PS.is_lv d)<;>(try have dl:=PS.isk_lv d (by decide))<;>(try have dl:=a1 d)<;>(try have dl:=PS.peek_lv d (by decide))<;>(try have dm:=PS.m_ok d)<;>(try have dm:=PS.m_bad d)<;>simp only[go_sem,reduceCtorEq,↓reduceIte,nA,nB,nC,nD,nE,iA,iB,iC,iD,iE,iF,d,hk,Bool.true_or,Bool.false_or,Bool.false_and,Bool.true_and])
   | (refine W.step (is_w _ (by simp only[go_sem,hk,ho]<;>rfl)) ?_;rintro _ rfl;simp only[go_sem,reduceCtorEq,↓reduceIte,nA,nB,nC,nD,nE,iA,iB,iC,iD,iE,iF,hk])
   | (refine W.step (isk_w _ (by simp only[go_sem,hk,ho]<;>rfl)) ?_;rintro _ rfl;simp only[go_sem,reduceCtorEq,↓reduceIte,nA,nB,nC,nD,nE,iA,iB,iC,iD,iE,iF,hk])
   | (refine W.step (peek_w (by simp only[go_sem,hk,ho]<;>rfl)) ?_;rintro _ rfl;simp only[go_sem,reduceCtorEq,↓reduceIte,nA,nB,nC,nD,nE,iA,iB,iC,iD,iE,iF,hk])
   | (refine W.step (next_w (by simp only[go_sem,hk,ho]<;>rfl)) ?_;rintro _ ⟨p2,rfl,a1,a2,a3⟩;simp only[go_sem,reduceCtorEq,↓reduceIte,nA,nB,nC,nD,nE,iA,iB,iC,iD,iE,iF,hk])
   | (refine W.step (minus_w (by simp only[go_sem,hk,ho]<;>rfl)) ?_;rintro _ ⟨p2,rfl,a1,a2,a3⟩;simp only[go_sem,reduceCtorEq,↓reduceIte,nA,nB,nC,nD,nE,iA,iB,iC,iD,iE,iF,hk])
   | (refine W.step (plain_w (by simp only[go_sem,hk,ho]<;>rfl)) ?_;rintro _ ⟨p2,n2,l2,c2,rfl,a1,a2⟩;simp only[go_sem,reduceCtorEq,↓reduceIte,nA,nB,nC,nD,nE,iA,iB,iC,iD,iE,iF,hk])
   | (refine W.step (number_w (by simp only[go_sem,hk,ho]<;>rfl)) ?_;rintro _ ⟨p2,n2,l2,c2,rfl,a1,a2⟩;simp only[go_sem,reduceCtorEq,↓reduceIte,nA,nB,nC,nD,nE,iA,iB,iC,iD,iE,iF,hk])
   | (refine W.step (ahead_w _ _ (by simp only[go_sem,hk,ho]<;>rfl)) ?_;rintro _ ⟨b2,rfl,a1⟩;simp only[go_sem,reduceCtorEq,↓reduceIte,nA,nB,nC,nD,nE,iA,iB,iC,iD,iE,iF,hk])
   | (refine W.step (pattern_w (by simp only[go_sem,hk,ho]<;>rfl)) ?_;rintro _ ⟨b2,rfl,a1⟩;simp only[go_sem,reduceCtorEq,↓reduceIte,nA,nB,nC,nD,nE,iA,iB,iC,iD,iE,iF,hk])
   | (refine W.step (argument_w (by simp only[go_sem,hk,ho]<;>rfl)) ?_;rintro _ ⟨b2,rfl,a1⟩;simp only[go_sem,reduceCtorEq,↓reduceIte,nA,nB,nC,nD,nE,iA,iB,iC,iD,iE,iF,hk])
   | (refine W.step (atomic_w (by simp only[go_sem,hk,ho]<;>rfl)) ?_;rintro _ ⟨b2,rfl,a1⟩;simp only[go_sem,reduceCtorEq,↓reduceIte,nA,nB,nC,nD,nE,iA,iB,iC,iD,iE,iF,hk])
   | (refine W.step (operator_w (by simp only[go_sem,hk,ho]<;>rfl)) ?_;rintro _ ⟨b2,rfl,a1⟩;simp only[go_sem,reduceCtorEq,↓reduceIte,nA,nB,nC,nD,nE,iA,iB,iC,iD,iE,iF,hk])
   | (refine W.step (text_w _ (by simp only[go_sem,hk,ho]<;>rfl)) ?_;rintro _ ⟨p2,x2,rfl,a1,a2,a3⟩;simp only[go_sem,reduceCtorEq,↓reduceIte,nA,nB,nC,nD,nE,iA,iB,iC,iD,iE,iF,hk])
   | (refine W.step (want_w _ (by decide) (by simp only[go_sem,hk,ho]<;>rfl)) ?_;rintro _ ⟨p2,x2,rfl,a1,a2,a3⟩;simp only[go_sem,reduceCtorEq,↓reduceIte,nA,nB,nC,nD,nE,iA,iB,iC,iD,iE,iF,hk])
   | (refine W.step (fails_w _ (by simp only[go_sem,hk,ho]<;>rfl)) ?_;rintro _ ⟨p2,rfl,a1,a2,a3,a4⟩;simp only[go_sem,reduceCtorEq,↓reduceIte,nA,nB,nC,nD,nE,iA,iB,iC,iD,iE,iF,hk]))
 ·
  have hmle:=@PS.m_le p
  refine W.step (W.loop (L:=l65_0) (Q:=fun q=>∃ (pc:PS) (rs:List Rhs) (v:AV) (A:Nat→Option (List AV)) (N:Nat) (D:List Nat),q=(.exit 0,[(0,.ref k 0),(1,.s sg),(5,v),(20,.b false)],wa (setOb s k pc.ob) A N)∧NR 2 s.arr s.nxt A N (.st 10) v (rs.map Rhs.av) D∧p.le pc∧(rs.map Rhs.sz).sum+20*pc.m+rs.length≤20*p.m) rfl (fun i en t=>∃ (pc:PS) (rs:List Rhs) (v:AV) (A:Nat→Option (List AV)) (N:Nat) (D:List Nat) (ex:Env),i=pc.m∧en=[(0,.ref k 0),(1,.s sg),(5,v)]++ex∧t=wa (setOb s k pc.ob) A N∧NR 2 s.arr s.nxt A N (.st 10) v (rs.map Rhs.av) D∧p.le pc∧(rs.map Rhs.sz).sum+20*pc.m+rs.length≤20*p.m) ?_ _ _ _ ⟨p,[],.nsl,s.arr,s.nxt,[],_,rfl,rfl,by rw[set_id ho];rfl,NR.nil,PS.le_refl,by simp⟩) ?_
  ·rintro i en t ⟨pc,rs,v,A,N,D,ex,rfl,rfl,rfl,hL,hle,hsum⟩
   have hlen:rs.length≤300000:=by omega
   simp only[go_sem,reduceCtorEq,↓reduceIte,nA,nB,nC,nD,nE,iA,iB,iC,iD,iE,iF,hk]
   refine W.step (is_w (p:=pc) _ (by simp only[go_sem,hk,ho]<;>rfl)) ?_
   rintro _ rfl
   cases hb:pc.is [124] with
   | false =>
    simp only[go_sem,reduceCtorEq,↓reduceIte,nA,nB,nC,nD,nE,iA,iB,iC,iD,iE,iF,hk,hb,hL.low]
    exact⟨pc,rs,v,A,N,D,rfl,hL,hle,hsum⟩
   | true =>
    have dl:=PS.is_lv hb
    have hlv2:=@PS.lv_m pc dl
    have hmc:=PS.le_m hle
    simp only[go_sem,reduceCtorEq,↓reduceIte,nA,nB,nC,nD,nE,iA,iB,iC,iD,iE,iF,hk,hb]
    refine W.step (next_w (p:=pc) (by simp only[go_sem,hk,ho]<;>rfl)) ?_
    rintro _ ⟨p3,rfl,b1,b2,b3⟩
    simp only[go_sem,reduceCtorEq,↓reduceIte,nA,nB,nC,nD,nE,iA,iB,iC,iD,iE,iF,hk]
    refine W.step (hexpr p3 _ _ (by simp only[go_sem,hk,ho]<;>rfl) (by omega)) ?_
    rintro _ ⟨p4,g,rfl,c1,c2,c3⟩
    simp only[go_sem,reduceCtorEq,↓reduceIte,nA,nB,nC,nD,nE,iA,iB,iC,iD,iE,iF,hk]
    refine W.step (text_w (p:=p4) _ (by simp only[go_sem,hk,ho]<;>rfl)) ?_
    rintro _ ⟨p5,x5,rfl,d1,d2,d3⟩
    simp only[go_sem,reduceCtorEq,↓reduceIte,nA,nB,nC,nD,nE,iA,iB,iC,iD,iE,iF,hk]
    refine W.step (hexpr p5 _ _ (by simp only[go_sem,hk,ho]<;>rfl) (by omega)) ?_
    rintro _ ⟨p6,r6,rfl,e1,e2,e3⟩
    obtain⟨v',A',N',D',k1,k2,k3,k4,-⟩:=hL.push (A1:=upd A N (some g.av.cells)) (N1:=N+1) (c:=.os N (.st 9) 1::r6.av.cells) (x:=(Rhs.mk [g] r6).av) (Dc:=[N]) (fun a ha=>upd_other (by omega)) (Nat.le_succ _) (rhs_fz1 g r6 upd_same) (by simp) (by rw[Xp.cells_eq];simp[lowL_cons,lowL_nil,lst_low,low_i,low_s,low_os]) (by rw[Xp.cells_eq];rfl) (Rhs.mk [g] r6).ele (by simp;unfold most;omega)
    have k1':∀ u,agrow (newAr (newAr (wa u A N) g.av.cells) (.os N (.st 9) 1::r6.av.cells)) (.st 10) 1 (.os N (.st 9) 1::r6.av.cells) v=some (v',wa u A' N'):=fun u=>k1 u
    rw[Xp.cells_eq,Xp.cells_eq] at k1'
    simp only[go_sem,reduceCtorEq,↓reduceIte,nA,nB,nC,nD,nE,iA,iB,iC,iD,iE,iF,hk,k1',hL.low,k2.low]
    exact⟨p6.m,by omega,p6,rs++[.mk [g] r6],v',A',N',D',[],rfl,rfl,rfl,by simpa using k2,(by repeat (first|exact PS.le_refl|assumption|(apply PS.le_trans;assumption))),by simp[Rhs.szs_mk];omega⟩
  ·rintro q ⟨pc,rs,v,A,N,D,rfl,hL,hle,hsum⟩
   have hfz:=fun u=>(hL.fz (by omega)).use 19997 u N
   have hmc:=PS.le_m hle
   simp only[go_sem,reduceCtorEq,↓reduceIte,nA,nB,nC,nD,nE,iA,iB,iC,iD,iE,iF,hk,hL.low,hfz]
   refine⟨pc,rs,by rw[back_ps hL.old lst_alow],hle,hmc,?_⟩
   cases rs with
   | nil=>exact .inl (by simp)
   | cons r rs=>simp only[List.length_cons] at hsum;omega
 ·refine W.step (hexpr _ _ _ (by simp only[go_sem,hk,ho]<;>rfl) (by omega)) ?_
  rintro _ ⟨p2,r2,rfl,a1,a2,a3⟩
  obtain⟨v',A',N',D',k1,k2,k3,k4,-⟩:=(NR.nil (m:=2) (A:=s.arr) (n0:=s.nxt) (el:=.st 10)).push (A1:=s.arr) (N1:=s.nxt) (c:=.nsl::r2.av.cells) (x:=(Rhs.mk [] r2).av) (fun _ _=>rfl) (Nat.le_refl _) (rhs_fz0 r2 _) (by simp) (by rw[Xp.cells_eq];simp[lowL_cons,lowL_nil,lst_low,low_i,low_s,low_nsl]) (by rw[Xp.cells_eq];rfl) (Rhs.mk [] r2).ele (by simp[most])
  have k1':=k1 (setOb s k p2.ob)
  rw[Xp.cells_eq,show wa (setOb s k p2.ob) s.arr s.nxt=setOb s k p2.ob from rfl] at k1'
  have hfz:=fun u=>(k2.fz (by omega)).use 19997 u N'
  simp only[go_sem,reduceCtorEq,↓reduceIte,nA,nB,nC,nD,nE,iA,iB,iC,iD,iE,iF,hk,k1',k2.low,hfz]
  refine⟨_,[Rhs.mk [] r2],by rw[back_ps k2.old lst_alow];rfl,(by repeat (first|exact PS.le_refl|assumption|(apply PS.le_trans;assumption))),by omega,?_⟩
  show 1+0+r2.sz+0≤2∨1+0+r2.sz+0+_+1≤_
  omega
end Go.Am
namespace Go.Am
open Go
abbrev AltL (n:Nat):Prop:=∀ (p:PS) (s:St) (k:Nat),obj s k=some p.ob→p.m<n→W (C F0 X0 139 [.ref k 0] s) fun q=>∃ (p':PS) (r:Alt),q=(r.av,setOb s k p'.ob)∧p.le p'∧p'.m≤p.m - 1∧(r.sz≤4∨r.sz+20*p'.m+1≤20*p.m)
theorem alt_step (n:Nat) (hbody:BodyL n):AltL n:=by
 intro p s k ho hn
 have hk:=obj_lt ho
 have hlv:=@PS.lv_le p
 rw[w_call (f:=139) rfl]
 simp only[go_sem,reduceCtorEq,↓reduceIte,nA,nB,nC,nD,nE,iA,iB,iC,iD,iE,iF,hk]
 refine W.step (pat_w (p:=p) (by simp only[go_sem,hk,ho]<;>rfl)) ?_
 rintro _ ⟨p2,r2,rfl,a1,a2,a3⟩
 simp only[go_sem,reduceCtorEq,↓reduceIte,nA,nB,nC,nD,nE,iA,iB,iC,iD,iE,iF,hk]
 refine W.step (hbody _ _ _ _ (by simp only[go_sem,hk,ho]<;>rfl) (by omega)) ?_
 rintro _ ⟨p3,rs,rfl,b1,b2,b3⟩
 simp only[go_sem,reduceCtorEq,↓reduceIte,nA,nB,nC,nD,nE,iA,iB,iC,iD,iE,iF,hk]
 refine⟨p3,.mk r2 rs,by rw[Alt.av_eq];rfl,(by repeat (first|exact PS.le_refl|assumption|(apply PS.le_trans;assumption))),by omega,?_⟩
 show 1+r2.sz+Rhs.szs rs≤4∨1+r2.sz+Rhs.szs rs+_+1≤_
 rw[Rhs.szs_sum]
 omega
end Go.Am
namespace Go.Am
open Go
structure Ent where
 b:Bnd
 v:AV
 D:List Nat
def Ent.cells (e:Ent):List AV:=[.s e.b.name,e.v,.i .i64 e.b.l,.i .i64 e.b.c]
def bsz (es:List Ent):Nat:=(es.map (fun e=>e.b.sz)).sum
theorem bsz_app {a b}:bsz (a++b)=bsz a+bsz b:=by simp[bsz]
theorem bsz_one {e}:bsz [e]=e.b.sz:=by simp[bsz]
theorem bsz_len (es:List Ent):es.length≤bsz es:=sum_len fun e _=>e.b.sz_pos
theorem bsz_mem {es:List Ent} {e} (h:e∈es):e.b.sz≤bsz es:=sum_mem (f:=fun e:Ent=>e.b.sz) h
abbrev Ent.at (A0:Nat→Option (List AV)) (n0:Nat) (A:Nat→Option (List AV)) (N:Nat) (e:Ent):Prop:=NR 2 A0 n0 A N (.st 2) e.v (e.b.cls.map Clause.av) e.D
def foot (l:AV) (es:List Ent):List Nat:=match l with|.os a _ _=>a::es.flatMap Ent.D|_=>[]
structure GB (A0:Nat→Option (List AV)) (n0:Nat) (A:Nat→Option (List AV)) (N:Nat) (l:AV) (es:List Ent):Prop where
 old:Old n0 A A0
 le:n0≤N
 ents:∀ e∈es,e.at A0 n0 A N
 dis:es.Pairwise fun e f=>∀ a∈f.D,a∉e.D
 row:(l=.nsl∧es=[])∨∃ a,l=.os a (.st 4) es.length∧A a=some (es.flatMap Ent.cells)∧n0≤a∧a<N∧(∀ e∈es,a∉e.D)∧es≠[]
section
variable {A0 A:Nat→Option (List AV)} {n0 N:Nat} {l:AV} {es:List Ent}
theorem GB.nil:GB A n0 A n0 .nsl []:=⟨Old.refl,Nat.le_refl _,(fun e h=>nomatch h),List.Pairwise.nil,.inl ⟨rfl,rfl⟩⟩
theorem GB.len (h:GB A0 n0 A N l es):alen false l=some (.i .i64 (es.length:Nat)):=by
 rcases h.row with ⟨rfl,rfl⟩|⟨a,rfl,-⟩<;>rfl
theorem GB.low (h:GB A0 n0 A N l es) (n:Nat):l.low n=true:=by rcases h.row with ⟨rfl,rfl⟩|⟨a,rfl,-⟩<;>rfl
theorem GB.one (h:GB A0 n0 A N l es):l.cells=[l]:=by rcases h.row with ⟨rfl,rfl⟩|⟨a,rfl,-⟩<;>rfl
theorem GB.foot_lt (h:GB A0 n0 A N l es) {a} (ha:a∈foot l es):n0≤a∧a<N:=by
 rcases h.row with ⟨rfl,rfl⟩|⟨b,rfl,h1,h2,h3,h4,h5⟩
 ·simp[foot] at ha
 ·rcases List.mem_cons.1 ha with rfl|ha
  ·exact⟨h2,h3⟩
  ·obtain⟨e,he,ha⟩:=List.mem_flatMap.1 ha
   exact (h.ents e he).2.2.2.1 a ha
theorem GB.mono {A1 N1} (h:GB A0 n0 A N l es) (hA:∀ a,a<N→A1 a=A a) (hN:N≤N1):GB A0 n0 A1 N1 l es:=by
 refine⟨fun a ha=>(hA a (by have:=h.le;omega)).trans (h.old a ha),by have:=h.le;omega,fun e he=>(h.ents e he).mono hA hN,h.dis,?_⟩
 rcases h.row with ⟨rfl,rfl⟩|⟨a,rfl,h1,h2,h3,h4,h5⟩
 ·exact .inl ⟨rfl,rfl⟩
 ·exact .inr ⟨a,rfl,(hA a h3).trans h1,h2,by omega,h4,h5⟩
theorem clause_ele (c:Clause):Ele (.st 2) c.av:=c.ele
theorem ent_fz {e:Ent} (h:e.at A0 n0 A N):FzL 3 A e.cells e.b.av.cells e.D:=by
 have h1:=h.fz (by omega)
 have h2:FzL 3 A [.s e.b.name] [.s e.b.name] []:=(FzL.scal rfl).ups 2
 have h3:FzL 3 A [.i .i64 e.b.l,.i .i64 e.b.c] [.i .i64 e.b.l,.i .i64 e.b.c] []:=(FzL.scal rfl).ups 2
 have:=(h2.app h1 (by simp)).app h3 (by simp)
 rw[Bnd.cells_eq]
 simpa[Ent.cells] using this
theorem ents_fz:∀ {es:List Ent},(∀ e∈es,e.at A0 n0 A N)→es.Pairwise (fun e f=>∀ a∈f.D,a∉e.D)→FzL 3 A (es.flatMap Ent.cells) ((es.map fun e=>e.b.av).flatMap AV.cells) (es.flatMap Ent.D)
 | [],_,_=>FzL.nil
 | e::es,h,hd=>by
  rw[List.pairwise_cons] at hd
  simp only[List.flatMap_cons,List.map_cons]
  refine (ent_fz (h e (List.mem_cons_self ..))).app (ents_fz (fun f hf=>h f (List.mem_cons_of_mem _ hf)) hd.2) fun a ha=>?_
  obtain⟨f,hf,ha⟩:=List.mem_flatMap.1 ha
  exact hd.1 f hf a ha
theorem ents_len (es:List Ent):(es.flatMap Ent.cells).length=es.length*4:=by
 induction es with
 | nil=>rfl
 | cons e es ih=>rw[List.flatMap_cons,List.length_append,ih,List.length_cons,Nat.add_mul];show 4+_=_;omega
theorem GB.fz (h:GB A0 n0 A N l es):FzL 4 A [l] [lst (.st 4) (es.map fun e=>e.b.av)] (foot l es):=by
 rcases h.row with ⟨rfl,rfl⟩|⟨a,rfl,h1,h2,h3,h4,h5⟩
 ·exact (FzL.one rfl).ups 3
 ·have hch:=chunk_flat (el:=.st 4) (es.map fun e=>e.b.av) [] (fun y hy=>by obtain⟨e,he,rfl⟩:=List.mem_map.1 hy;exact e.b.ele.elem)
  rw[List.append_nil,List.length_map] at hch
  have:=FzL.os (a:=a) (el:=.st 4) (k:=es.length) (m:=3) (by rw[List.take_of_length_le (by rw[ents_len];exact Nat.le_refl _)];exact ents_fz h.ents h.dis) h1 (fun hh=>by obtain⟨e,he,hh⟩:=List.mem_flatMap.1 hh;exact h4 e he hh) hch
  cases es with
  | nil=>exact (h5 rfl).elim
  | cons e es=>exact this
theorem GB.clr_old (h:GB A0 n0 A N l es):Old n0 (clr A (foot l es)) A0:=Am.clr_old h.old fun a ha=>(h.foot_lt ha).1
theorem GB.new {A1:Nat→Option (List AV)} {N1:Nat} {e:Ent} (h:GB A0 n0 A N l es) (hA:∀ a,a<N→A1 a=A a) (hN:N≤N1) (he:e.at A0 n0 A1 N1) (hD:∀ a∈e.D,N≤a) (hm:es.length+1≤most) :
  ∃ l' A' N',(∀ u,agrow (newAr (wa u A1 N1) e.cells) (.st 4) 1 e.cells l=some (l',wa u A' N'))∧GB A0 n0 A' N' l' (es++[e])∧N1≤N'∧(∀ a,a<N→a∉foot l es→A' a=A a)∧(∀ a∈foot l' (es++[e]),a∈foot l es∨N≤a)∧∃ i n,l'=.os i (.st 4) n∧N1≤i:=by
 have h1:=h.mono hA hN
 have hnN:=h.le
 have hlow:AV.lowL 0 e.cells=true:=by simp[Ent.cells,lowL_cons,lowL_nil,low_i,low_s,he.low]
 have heD:=he.2.2.2.1
 have hdis:(es++[e]).Pairwise fun e f=>∀ a∈f.D,a∉e.D:=by
  rw[List.pairwise_append]
  refine⟨h.dis,List.pairwise_singleton _ _,fun f hf g hg a ha hb=>?_⟩
  rw[List.mem_singleton.1 hg] at ha
  have:=hD a ha
  have:=((h.ents f hf).2.2.2.1 a hb).2
  omega
 have hents:∀ f∈es++[e],f.at A0 n0 A1 N1:=fun f hf=>(List.mem_append.1 hf).elim (h1.ents f) fun hf=>by rw[List.mem_singleton.1 hf];exact he
 rcases h.row with ⟨rfl,rfl⟩|⟨a,rfl,j1,j2,j3,j4,j5⟩
 ·refine⟨.os (N1+1) (.st 4) 1,upd (upd A1 N1 (some e.cells)) (N1+1) (some e.cells),N1+2,fun u=>?_,⟨old_upd (old_upd h1.old (by omega)) (by omega),by omega,fun f hf=>?_,hdis,.inr ⟨N1+1,rfl,by rw[upd_same];simp,by omega,by omega,fun f hf hh=>?_,by simp⟩⟩,by omega,fun a ha _=>?_,fun a ha=>.inr ?_,_,_,rfl,Nat.le_succ _⟩
  ·unfold agrow
   dsimp only
   rw[if_neg (by simp),if_pos ⟨by simp at hm ⊢;omega,hlow⟩]
   rfl
  ·exact (hents f hf).mono (fun b hb=>by rw[upd_other (by omega),upd_other (by omega)]) (by omega)
  ·have:=((hents f hf).2.2.2.1 _ hh).2;omega
  ·rw[upd_other (by omega),upd_other (by omega),hA a ha]
  ·rcases List.mem_cons.1 ha with rfl|ha
   ·omega
   ·simp at ha;exact hD a ha
 ·refine⟨.os (N1+1) (.st 4) (es.length+1),upd (upd (upd A1 N1 (some e.cells)) a none) (N1+1) (some (es.flatMap Ent.cells++e.cells)),N1+2,fun u=>?_,⟨old_upd (old_upd (old_upd h1.old (by omega)) j2) (by omega),by omega,fun f hf=>?_,hdis,.inr ⟨N1+1,by rw[List.length_append];rfl,by rw[upd_same];simp,by omega,by omega,fun f hf hh=>?_,by simp⟩⟩,by omega,fun b hb hne=>?_,fun b hb=>?_,_,_,rfl,Nat.le_succ _⟩
  ·unfold agrow
   show (match (upd A1 N1 (some e.cells)) a with|some cs=>_|none=>_)=_
   rw[upd_other (by omega),hA a j3,j1]
   dsimp only
   rw[if_pos ⟨rfl,by rw[ents_len];exact Nat.le_refl _,hm,hlow⟩,List.take_of_length_le (by rw[ents_len];exact Nat.le_refl _)]
   rfl
  ·have hh:=hents f hf
   have hna:a∉f.D:=by
    rcases List.mem_append.1 hf with hf|hf
    ·exact j4 f hf
    ·intro hh;rw[List.mem_singleton.1 hf] at hh;have:=hD a hh;omega
   obtain⟨g0,g1,g2,g3,g4⟩:=hh
   refine⟨g0,old_upd (old_upd (old_upd g1 (by omega)) j2) (by omega),by omega,fun b hb=>⟨(g3 b hb).1,by have:=(g3 b hb).2;omega⟩,?_⟩
   have key:∀ b∈f.D,(upd (upd (upd A1 N1 (some e.cells)) a none) (N1+1) (some (es.flatMap Ent.cells++e.cells))) b=A1 b:=fun b hb=>by
    have:=(g3 b hb).2
    rw[upd_other (by omega),upd_other (fun e=>hna (by rw[←e];exact hb)),upd_other (by omega)]
   rcases g4 with g4|⟨b,cs,E,k1,k2,k3,k4,k5,k6,k7⟩
   ·exact .inl g4
   ·exact .inr ⟨b,cs,E,k1,(key b (by rw[k6];exact List.mem_cons_self ..)).trans k2,k3,k4.mono fun i hi=>key i (by rw[k6];exact List.mem_cons_of_mem _ hi),k5,k6,k7⟩
  ·have:=((hents f hf).2.2.2.1 _ hh).2;omega
  ·rw[upd_other (by omega),upd_other (fun e=>hne (by rw[e];exact List.mem_cons_self ..)),upd_other (by omega),hA b hb]
  ·rcases List.mem_cons.1 hb with rfl|hb
   ·exact .inr (by omega)
   ·obtain⟨f,hf,hb⟩:=List.mem_flatMap.1 hb
    rcases List.mem_append.1 hf with hf|hf
    ·exact .inl (List.mem_cons_of_mem _ (List.mem_flatMap.2 ⟨f,hf,hb⟩))
    ·rw[List.mem_singleton.1 hf] at hb;exact .inr (hD b hb)
theorem GB.last (h:GB A0 n0 A N l es) (hne:es≠[]):∃ init e a,es=init++[e]∧l=.os a (.st 4) (init.length+1)∧A a=some (init.flatMap Ent.cells++e.cells):=by
 rcases h.row with ⟨rfl,rfl⟩|⟨a,rfl,j1,j2,j3,j4,j5⟩
 ·exact (hne rfl).elim
 ·obtain⟨init,e,rfl⟩:∃ init e,es=init++[e]:=⟨es.dropLast,es.getLast hne,(List.dropLast_concat_getLast hne).symm⟩
  exact⟨init,e,a,rfl,by rw[List.length_append];rfl,by rw[j1];simp⟩
theorem GB.upd {A':Nat→Option (List AV)} {N' a:Nat} {init:List Ent} {e:Ent} {v':AV} {c:Clause} {D':List Nat} (h:GB A0 n0 A N (.os a (.st 4) (init.length+1)) (init++[e])) (hv:NR 2 A0 n0 A' N' (.st 2) v' (e.b.cls.map Clause.av++[c.av]) D') (hN:N≤N') (hA:∀ b,b<N→b∉e.D→A' b=A b) (hD:∀ b∈D',b∈e.D∨N≤b) :
  A' a=some (init.flatMap Ent.cells++e.cells)∧GB A0 n0 (Am.upd A' a (some (init.flatMap Ent.cells++[.s e.b.name,v',.i .i64 e.b.l,.i .i64 e.b.c]))) N' (.os a (.st 4) (init.length+1)) (init++[⟨.mk e.b.name e.b.cl (e.b.cs++[c]) e.b.l e.b.c,v',D'⟩]) ∧
  (∀ b,b<N→b∉foot (.os a (.st 4) (init.length+1)) (init++[e])→(Am.upd A' a (some (init.flatMap Ent.cells++[.s e.b.name,v',.i .i64 e.b.l,.i .i64 e.b.c]))) b=A b) ∧
  ∀ b∈foot (.os a (.st 4) (init.length+1)) (init++[⟨.mk e.b.name e.b.cl (e.b.cs++[c]) e.b.l e.b.c,v',D'⟩]),b∈foot (.os a (.st 4) (init.length+1)) (init++[e])∨N≤b:=by
 have hle:=h.le
 have hents:=h.ents
 have hdis:=h.dis
 have hold:=h.old
 rcases h.row with ⟨hh,-⟩|⟨a',hh,j1,j2,j3,j4,j5⟩
 ·cases hh
 injection hh with hh
 subst hh
 have hae:a∉e.D:=j4 e (by simp)
 have hAa:A' a=some (init.flatMap Ent.cells++e.cells):=by rw[hA a j3 hae,j1];simp
 obtain⟨g0,g1,g2,g3,g4⟩:=id hv
 have haD:a∉D':=fun hh=>(hD a hh).elim hae (by omega)
 rw[List.pairwise_append] at hdis
 obtain⟨d1,d2,d3⟩:=hdis
 refine⟨hAa,⟨old_upd g1 j2,by omega,fun f hf=>?_,?_,.inr ⟨a,by rw[List.length_append];rfl,by rw[upd_same];simp[Ent.cells,Bnd.name,Bnd.l,Bnd.c],j2,by omega,fun f hf=>?_,by simp⟩⟩,fun b hb hne=>?_,fun b hb=>?_⟩
 ·rcases List.mem_append.1 hf with hf|hf
  ·obtain⟨f0,f1,f2,f3,f4⟩:=hents f (List.mem_append_left _ hf)
   have key:∀ b∈f.D,(Am.upd A' a (some (init.flatMap Ent.cells++[.s e.b.name,v',.i .i64 e.b.l,.i .i64 e.b.c]))) b=A b:=fun b hb=>by
    rw[upd_other (fun e=>j4 f (List.mem_append_left _ hf) (by rw[←e];exact hb))]
    exact hA b (f3 b hb).2 fun hh=>d3 f hf e (List.mem_singleton.2 rfl) b hh hb
   refine⟨f0,old_upd g1 j2,by omega,fun b hb=>⟨(f3 b hb).1,by have:=(f3 b hb).2;omega⟩,?_⟩
   rcases f4 with f4|⟨b,cs,E,k1,k2,k3,k4,k5,k6,k7⟩
   ·exact .inl f4
   ·exact .inr ⟨b,cs,E,k1,(key b (by rw[k6];exact List.mem_cons_self ..)).trans k2,k3,k4.mono fun i hi=>key i (by rw[k6];exact List.mem_cons_of_mem _ hi),k5,k6,k7⟩
  ·rw[List.mem_singleton.1 hf]
   have e1:(Bnd.cls (.mk e.b.name e.b.cl (e.b.cs++[c]) e.b.l e.b.c)).map Clause.av=e.b.cls.map Clause.av++[c.av]:=by simp[Bnd.cls,Bnd.cl,Bnd.cs]
   show NR 2 A0 n0 _ N' (.st 2) v' _ D'
   rw[e1]
   refine⟨g0,old_upd g1 j2,g2,g3,?_⟩
   rcases g4 with g4|⟨b,cs,E,k1,k2,k3,k4,k5,k6,k7⟩
   ·exact .inl g4
   ·exact .inr ⟨b,cs,E,k1,(upd_other (fun e=>haD (by rw[←e,k6];exact List.mem_cons_self ..))).trans k2,k3,k4.mono fun i hi=>upd_other (fun e=>haD (by rw[←e,k6];exact List.mem_cons_of_mem _ hi)),k5,k6,k7⟩
 ·rw[List.pairwise_append]
  refine⟨d1,List.pairwise_singleton _ _,fun f hf g hg b hb hh=>?_⟩
  rw[List.mem_singleton.1 hg] at hb
  rcases hD b hb with hb|hb
  ·exact d3 f hf e (List.mem_singleton.2 rfl) b hb hh
  ·have:=((hents f (List.mem_append_left _ hf)).2.2.2.1 b hh).2;omega
 ·rcases List.mem_append.1 hf with hf|hf
  ·exact j4 f (List.mem_append_left _ hf)
  ·rw[List.mem_singleton.1 hf];exact haD
 ·rw[upd_other (fun e=>hne (by rw[e];exact List.mem_cons_self ..))]
  exact hA b hb fun hh=>hne (List.mem_cons_of_mem _ (List.mem_flatMap.2 ⟨e,by simp,hh⟩))
 ·rcases List.mem_cons.1 hb with rfl|hb
  ·exact .inl (List.mem_cons_self ..)
  ·obtain⟨f,hf,hb⟩:=List.mem_flatMap.1 hb
   rcases List.mem_append.1 hf with hf|hf
   ·exact .inl (List.mem_cons_of_mem _ (List.mem_flatMap.2 ⟨f,List.mem_append_left _ hf,hb⟩))
   ·rw[List.mem_singleton.1 hf] at hb
    rcases hD b hb with hb|hb
    ·exact .inl (List.mem_cons_of_mem _ (List.mem_flatMap.2 ⟨e,by simp,hb⟩))
    ·exact .inr hb
end
end Go.Am
namespace Go.Am
open Go
def ClQ (s:St) (k:Nat) (p:PS) (A0:Nat→Option (List AV)) (n0:Nat) (l:AV) (es:List Ent) (q:AV × St):Prop :=
 ∃ (p':PS) (l':AV) (es':List Ent) (A':Nat→Option (List AV)) (N':Nat),q=(l',wa (setOb s k p'.ob) A' N')∧GB A0 n0 A' N' l' es'∧p.le p'∧p'.m≤p.m - 1∧(p'.bad=false→es'.length+p'.w≤es.length+p.w)∧(∃ z,bsz es'≤bsz es+z∧(z≤4∨z+20*p'.m+1≤20*p.m))∧s.nxt≤N'∧(∀ a,a<s.nxt→a∉foot l es→A' a=s.arr a)∧(∀ a∈foot l' es',a∈foot l es∨s.nxt≤a)∧((∃ i n,l'=.os i (.st 4) n∧s.nxt≤i)∨∃ a,a<s.nxt∧A' a≠s.arr a)
abbrev ClauseL (n:Nat):Prop:=∀ (p:PS) (s:St) (k:Nat) (A0:Nat→Option (List AV)) (n0:Nat) (l:AV) (es:List Ent),obj s k=some p.ob→p.m<n→GB A0 n0 s.arr s.nxt l es→bsz es≤300000→W (C F0 X0 34 [.ref k 0,l] s) (ClQ s k p A0 n0 l es)
theorem wt_1 {t:Tok} (h:t.kind=1):wt t=1:=by unfold wt;simp[h]
theorem wt_3 {t:Tok} (h:t.kind=3):wt t=1:=by unfold wt;simp[h]
theorem clause_fz {A d v} {ps:List Pat} {rs:List Rhs} (h:FzL 2 A [v] [lst (.st 6) (ps.map Pat.av)] d):FzL 2 A [v,lst (.st 10) (rs.map Rhs.av)] (Clause.mk ps rs).av.cells d:=by
 have h2:FzL 2 A [lst (.st 10) (rs.map Rhs.av)] [lst (.st 10) (rs.map Rhs.av)] []:=(FzL.one (lst_scals rhs_finl)).up
 rw[Clause.cells_eq]
 simpa[Clause.pats,Clause.rhs] using h.app h2 (by simp)
theorem splice_1 {X:List AV} {a b c d y:AV}:splice (X++[a,b,c,d]) (X.length+1) [y]=X++[a,y,c,d]:=by
 unfold splice
 rw[List.take_append,List.drop_append,List.take_of_length_le (by omega),List.drop_eq_nil_of_le (by simp;omega),show X.length+1 - X.length=1 by omega,show X.length+1+[y].length - X.length=2 by simp;omega]
 simp
theorem clause_step (n:Nat) (hbody:BodyL n):ClauseL n:=by
 intro p s k A0 n0 l es ho hn hG hz
 have hk:=obj_lt ho
 have hlv:=@PS.lv_le p
 have key:∀ (p2:PS) (t:Tok),p.le p2→p2.m≤p.m - 1→(p2.bad=false→p2.w+1≤p.w)→W
  ((E F0 X0 (cnt s) l34_0 [(0,AV.ref k 0),(1,l),(5,AV.ref (cnt s) 0),(6,AV.ref (cnt s+1) 0)]
     (ex (setOb s k p2.ob)
      [Ob.cells
        [AV.i IntKind.i64 t.kind,AV.s t.text,AV.i IntKind.i64 t.n,AV.i IntKind.i64 ↑t.line,
         AV.i IntKind.i64 ↑t.col,AV.b t.made],
       Ob.cells [AV.nsl,AV.nsl]])).bind
   (kc
    (kc (bkk 0)
     (sqk F0 X0 (cnt s)
      ((ACode.reg (some [1,5,6]) o34_10).seq
       (((ACode.reg (some [1,5,6,7]) o34_11).seq
          ((ACode.reg (some [1,5,6,7,46]) o34_12).seq
           (ACode.cond (Arg.t 46)
            ((ACode.reg (some [1]) o34_13).seq ((ACode.reg (some [4]) o34_14).seq ACode.ret))
            ACode.skip))).seq
        ((ACode.reg (some [4]) o34_15).seq ACode.ret)))))
    (fk s [(Arg.t 4,none)] false)))
  (ClQ s k p A0 n0 l es):=by
  intro p2 t h1 h2 h3
  have hmle:=@PS.m_le p2
  obtain⟨l1,hl1⟩:∃ l1:List Ob,l1=[.cells [.i .i64 t.kind,.s t.text,.i .i64 t.n,.i .i64 (t.line:Nat),.i .i64 (t.col:Nat),.b t.made]]:=⟨_,rfl⟩
  refine W.step (W.loop (L:=l34_0) (Q:=fun q=>∃ (pc:PS) (xs:List Pat) (v:AV) (A:Nat→Option (List AV)) (N:Nat),q=(.exit 0,[(0,.ref k 0),(1,l),(5,.ref (cnt s) 0),(6,.ref (cnt s+1) 0),(21,.b false)],wa (ex (setOb s k pc.ob) (l1++[.cells [v,.nsl]])) A N)∧Loc s.arr s.nxt A N (.st 6) v (xs.map Pat.av)∧p2.le pc∧(xs.map Pat.sz).sum+20*pc.m≤20*p2.m) rfl (fun i e t=>∃ (pc:PS) (xs:List Pat) (v:AV) (A:Nat→Option (List AV)) (N:Nat),i=pc.m∧e=[(0,.ref k 0),(1,l),(5,.ref (cnt s) 0),(6,.ref (cnt s+1) 0)]∧t=wa (ex (setOb s k pc.ob) (l1++[.cells [v,.nsl]])) A N∧Loc s.arr s.nxt A N (.st 6) v (xs.map Pat.av)∧p2.le pc∧(xs.map Pat.sz).sum+20*pc.m≤20*p2.m) ?_ _ _ _ ⟨p2,[],.nsl,s.arr,s.nxt,rfl,rfl,by rw[hl1];rfl,Loc.nil,PS.le_refl,by simp⟩) ?_
  ·rintro i e t ⟨pc,xs,v,A,N,rfl,rfl,rfl,hL,hle,hsum⟩
   simp only[go_sem,reduceCtorEq,↓reduceIte,nA,nB,nC,nD,nE,iA,iB,iC,iD,iE,iF,hl1,hk,hG.low]
   refine W.step (pattern_w (p:=pc) (by simp only[go_sem,hk,ho]<;>rfl)) ?_
   rintro _ ⟨b,rfl,hb⟩
   simp only[go_sem,reduceCtorEq,↓reduceIte,nA,nB,nC,nD,nE,iA,iB,iC,iD,iE,iF,hl1,hk,hG.low]
   cases b with
   | false =>
    simp only[go_sem,reduceCtorEq,↓reduceIte,nA,nB,nC,nD,nE,iA,iB,iC,iD,iE,iF,hl1,hk,hG.low]
    exact⟨pc,xs,v,A,N,rfl,hL,hle,hsum⟩
   | true =>
    have dl:=hb rfl
    have hlv2:=@PS.lv_m pc dl
    simp only[go_sem,reduceCtorEq,↓reduceIte,nA,nB,nC,nD,nE,iA,iB,iC,iD,iE,iF,hl1,hk,hG.low]
    refine W.step (apat_w (p:=pc) (by simp only[go_sem,hk,ho]<;>rfl)) ?_
    rintro _ ⟨p3,r3,rfl,a1,a2,a3⟩
    have hlen:=Pat.szs_len xs
    obtain⟨v',A',N',k1,k2⟩:=hL.push (y:=r3.av) (cy:=r3.av.cells) rfl r3.ele (by simp;unfold most;omega)
    rw[Pat.cells_eq] at k1
    have e1:xs.map Pat.av++[r3.av]=(xs++[r3]).map Pat.av:=by simp
    rw[e1] at k2
    have hone:v'.cells=[v']:=by obtain⟨d,h,-⟩:=k2;exact h.one
    simp only[go_sem,reduceCtorEq,↓reduceIte,nA,nB,nC,nD,nE,iA,iB,iC,iD,iE,iF,hl1,hk,hL.low,k1,k2.low,hone,hG.low]
    exact⟨p3.m,by omega,p3,xs++[r3],v',A',N',rfl,rfl,k2,PS.le_trans hle a1,by simp;omega⟩
  ·rintro q ⟨pc,xs,v,A,N,rfl,hL,hle,hsum⟩
   have hmc:=PS.le_m hle
   have hone:v.cells=[v]:=by obtain⟨d,h,-⟩:=hL;exact h.one
   simp only[go_sem,reduceCtorEq,↓reduceIte,nA,nB,nC,nD,nE,iA,iB,iC,iD,iE,iF,hl1,hk,hL.low,hone,hG.low]
   refine W.step (hbody pc _ _ _ (by simp only[go_sem,hk,ho]<;>rfl) (by omega)) ?_
   rintro _ ⟨p4,rs,rfl,b1,b2,b3⟩
   obtain⟨d,g1,g2,g3,g4,g5⟩:=id hL
   have hc:FzL 2 A [v,lst (.st 10) (rs.map Rhs.av)] (Clause.mk xs rs).av.cells d.toList:=clause_fz (g1.fz g5)
   have hd:∀ a∈d.toList,s.nxt≤a∧a<N:=fun a ha=>⟨g2 a (toList_lt ha),g1.lt (toList_lt ha)⟩
   have hle:=hG.le
   have hlenb:=bsz_len es
   have hszp:=Pat.szs_sum xs
   have hszr:=Rhs.szs_sum rs
   have hsz:(Clause.mk xs rs).sz=1+Pat.szs xs+Rhs.szs rs:=rfl
   obtain⟨e,he⟩:∃ e:Ent,e=⟨.mk t.text (.mk xs rs) [] t.line t.col,.os N (.st 2) 1,N::d.toList⟩:=⟨_,rfl⟩
   have hat:e.at A0 n0 (upd A N (some [v,lst (.st 10) (rs.map Rhs.av)])) (N+1):=by
    rw[he]
    refine⟨fun x hx=>?_,fun a ha=>?_,by omega,fun a ha=>?_,.inr ⟨N,_,d.toList,rfl,upd_same,rfl,?_,fun h=>by have:=(hd _ h).2;omega,rfl,by simp[Bnd.cls]⟩⟩
    ·obtain⟨c,hc,rfl⟩:=List.mem_map.1 hx;exact c.ele
    ·rw[upd_other (by omega),g3 a (by omega)];exact hG.old a ha
    ·rcases List.mem_cons.1 ha with rfl|ha
     ·omega
     ·have:=hd a ha;omega
    ·have:FzL 2 (upd A N (some [v,lst (.st 10) (rs.map Rhs.av)])) [v,lst (.st 10) (rs.map Rhs.av)] (Clause.mk xs rs).av.cells d.toList:=hc.mono fun a ha=>upd_other (by have:=(hd a ha).2;omega)
     simpa[Bnd.cls,Bnd.cl,Bnd.cs] using this
   obtain⟨l',A',N',k1,k2,k3,k4,k5,i6,n6,k6,k7⟩:=hG.new (A1:=upd A N (some [v,lst (.st 10) (rs.map Rhs.av)])) (N1:=N+1) (e:=e) (fun a ha=>by rw[upd_other (by omega)];exact g3 a ha) (by omega) hat (fun a ha=>by rw[he] at ha;rcases List.mem_cons.1 ha with rfl|ha;omega;exact (hd a ha).1) (by unfold most;omega)
   have k1':∀ u,agrow (newAr (newAr (wa u A N) [v,lst (.st 10) (rs.map Rhs.av)]) [.s t.text,.os N (.st 2) 1,.i .i64 t.line,.i .i64 t.col]) (.st 4) 1 [.s t.text,.os N (.st 2) 1,.i .i64 t.line,.i .i64 t.col] l=some (l',wa u A' N'):=fun u=>by have:=k1 u;rw[he] at this;exact this
   have fin1:ClQ s k p A0 n0 l es (l',wa (setOb s k p4.ob) A' N'):=by
    refine⟨p4,l',es++[e],A',N',rfl,k2,(by repeat (first|exact PS.le_refl|assumption|(apply PS.le_trans;assumption))),by omega,fun hb=>?_,⟨1+(1+Pat.szs xs+Rhs.szs rs+0),by rw[bsz_app,bsz_one,he];exact Nat.le_refl _,by omega⟩,by omega,k4,k5,.inl ⟨_,_,k6,by omega⟩⟩
    have e1:=PS.le_w (PS.le_trans ‹p2.le pc› b1)
    have e2:=h3 (by
     cases h:p2.bad with
     | false=>rfl
     | true=>rw[(PS.le_trans ‹p2.le pc› b1).2.2 h] at hb;cases hb)
    simp
    omega
   by_cases hne:es=[]
   ·subst hne
    simp only[go_sem,reduceCtorEq,↓reduceIte,nA,nB,nC,nD,nE,iA,iB,iC,iD,iE,iF,hl1,hk,hL.low,hone,hG.low,hG.len,k1',k2.low,show decide (((0:Nat):Int)>0)=false from rfl]
    rw[k6,back_hi (by omega),←k6]
    exact fin1
   ·obtain⟨init,f,a,rfl,rfl,hA⟩:=hG.last hne
    have hG2:=hG.len
    rw[show (init++[f]).length=init.length+1 by simp] at hG2
    have hpos:decide (((init.length+1:Nat):Int)>0)=true:=by simp
    have hw:IntKind.i64.wrap (((init.length+1:Nat):Int) - 1)=(init.length:Int):=by
     rw[←wrap_nat (n:=init.length) (by simp at hlenb;omega)];congr 1;omega
    have hi:∀ k,aiad (.st 4) (.os a (.st 4) (init.length+1)) (.i k (init.length:Int))=some (.aref a (init.length*4)):=fun k=>by
     unfold aiad
     dsimp only
     rw[if_pos ⟨by omega,by omega,rfl⟩,Int.toNat_natCast]
     rfl
    have hfl:=hG.foot_lt (a:=a) (List.mem_cons_self ..)
    have hA2:A a=some (init.flatMap Ent.cells++f.cells):=(g3 a hfl.2).trans hA
    have hget:∀ (j:Nat),(init.flatMap Ent.cells++f.cells)[init.length*4+j]?=f.cells[j]?:=fun j=>by
     rw[List.getElem?_append_right (by rw[ents_len];omega),ents_len];congr 1;omega
    have hld0:∀ u M,aload (wa u A M) .one (.aref a (init.length*4))=some (.s f.b.name):=fun u M=>by
     show (A a).bind _=_
     rw[hA2]
     exact hget 0
    have hld1:∀ u M,aload (wa u A M) .one (.aref a (init.length*4+1))=some f.v:=fun u M=>by
     show (A a).bind _=_
     rw[hA2]
     exact hget 1
    simp only[go_sem,reduceCtorEq,↓reduceIte,nA,nB,nC,nD,nE,iA,iB,iC,iD,iE,iF,hl1,hk,hL.low,hone,hG.low,hG2,hpos,hw,hi,hld0,hld1]
    refine W.ifc (fun dd=>?_) (fun dd=>?_)
    ·obtain⟨v',A2,N2,D2,q1,q2,q3,q4,q5,i7,n7,q6,q7⟩:=(hG.ents f (by simp)).push (A1:=A) (N1:=N) (c:=[v,lst (.st 10) (rs.map Rhs.av)]) (x:=(Clause.mk xs rs).av) g3 g4 hc hd (by simp[lowL_cons,lowL_nil,lst_low,hL.low]) rfl (Clause.mk xs rs).ele (by have:=bsz_mem (es:=init++[f]) (e:=f) (by simp);have:=Bnd.sz_eq f.b;have:=Clause.szs_len f.b.cls;simp;unfold most;omega)
     obtain⟨r1,r2,r3,r4⟩:=hG.upd q2 (by omega) q4 q5
     have hflo:f.v.low (cnt s)=true:=(hG.ents f (by simp)).low _
     simp only[go_sem,reduceCtorEq,↓reduceIte,nA,nB,nC,nD,nE,iA,iB,iC,iD,iE,iF,hl1,hk,hL.low,hone,hG.low,hpos,hw,hi,hld0,hld1,dd,q1,hflo]
     have hv1:=q2.one
     have hst:∀ u bs,astore bs 1 (wa u A2 N2) v' (.aref a (init.length*4+1))=some (.un,wa u (upd A2 a (some (init.flatMap Ent.cells++[.s f.b.name,v',.i .i64 f.b.l,.i .i64 f.b.c]))) N2):=fun u bs=>by
      show (match A2 a with|some cs=>_|none=>none)=_
      rw[r1]
      dsimp only
      have hln:(init.flatMap Ent.cells++f.cells).length=init.length*4+4:=by rw[List.length_append,ents_len];rfl
      rw[if_pos ⟨by rw[hv1];rfl,by omega,by rw[hln];omega,q2.low 0⟩,hv1]
      have hsp:splice (init.flatMap Ent.cells++f.cells) (init.length*4+1) [v']=init.flatMap Ent.cells++[.s f.b.name,v',.i .i64 f.b.l,.i .i64 f.b.c]:=by
       rw[←ents_len];exact splice_1
      rw[hsp]
      rfl
     simp only[go_sem,reduceCtorEq,↓reduceIte,nA,nB,nC,nD,nE,iA,iB,iC,iD,iE,iF,hst]
     have hnn:f.b.name=t.text:=eq_of_beq dd
     have hfv:∀ i n,f.v=.os i (.st 2) n→i<s.nxt:=fun i n hh=>by
      obtain⟨-,-,-,w1,w2⟩:=hG.ents f (by simp)
      rcases w2 with ⟨w2,-⟩|⟨b,cs,E,w2,-,-,-,-,w3,-⟩
      ·rw[w2] at hh;cases hh
      ·rw[w2] at hh;injection hh with hh;rw[←hh];exact (w1 b (by rw[w3];exact List.mem_cons_self ..)).2
     have hch:(upd A2 a (some (init.flatMap Ent.cells++[.s f.b.name,v',.i .i64 f.b.l,.i .i64 f.b.c]))) a≠s.arr a:=by
      rw[upd_same,hA]
      intro hh
      injection hh with hh
      have:=List.append_cancel_left hh
      injection this with _ this
      injection this with this
      have:=hfv _ _ (this.symm.trans q6)
      omega
     rw[back_ch (a:=a) hfl.2 hch]
     have hsz2:(Bnd.mk f.b.name f.b.cl (f.b.cs++[Clause.mk xs rs]) f.b.l f.b.c).sz=f.b.sz+(Clause.mk xs rs).sz:=by
      rw[Bnd.sz_eq,Bnd.sz_eq];simp[Bnd.cls,Bnd.cl,Bnd.cs];omega
     refine⟨p4,_,_,_,N2,rfl,r2,(by repeat (first|exact PS.le_refl|assumption|(apply PS.le_trans;assumption))),by omega,fun hb=>?_,⟨1+Pat.szs xs+Rhs.szs rs,?_,by omega⟩,by omega,r3,r4,.inr ⟨a,hfl.2,hch⟩⟩
     ·have e1:=PS.le_w (PS.le_trans ‹p2.le pc› b1)
      have e2:=h3 (by
       cases h:p2.bad with
       | false=>rfl
       | true=>rw[(PS.le_trans ‹p2.le pc› b1).2.2 h] at hb;cases hb)
      simp
      omega
     ·rw[bsz_app,bsz_app,bsz_one,bsz_one,←hsz]
      show _+Bnd.sz _≤_
      rw[hsz2]
      omega
    ·simp only[go_sem,reduceCtorEq,↓reduceIte,nA,nB,nC,nD,nE,iA,iB,iC,iD,iE,iF,hl1,hk,hL.low,hone,hG.low,hG2,hpos,hw,hi,hld0,hld1,k1',k2.low,dd]
     rw[k6,back_hi (by omega),←k6]
     exact fin1
 rw[w_call (f:=34) rfl]
 simp only[go_sem,reduceCtorEq,↓reduceIte,nA,nB,nC,nD,nE,iA,iB,iC,iD,iE,iF,hk,hG.low]
 refine W.step (is_w (p:=p) _ (by simp only[go_sem,hk,ho]<;>rfl)) ?_
 rintro _ rfl
 simp only[go_sem,reduceCtorEq,↓reduceIte,nA,nB,nC,nD,nE,iA,iB,iC,iD,iE,iF,hk,hG.low]
 refine W.ifc (fun d=>?_) (fun d=>?_)
 ·have dl:=PS.is_lv d
  simp only[go_sem,reduceCtorEq,↓reduceIte,nA,nB,nC,nD,nE,iA,iB,iC,iD,iE,iF,hk,hG.low,d]
  refine W.step (next_w (p:=p) (by simp only[go_sem,hk,ho]<;>rfl)) ?_
  rintro _ ⟨p1,rfl,a1,a2,a3⟩
  simp only[go_sem,reduceCtorEq,↓reduceIte,nA,nB,nC,nD,nE,iA,iB,iC,iD,iE,iF,hk,hG.low]
  refine W.step (want_w (p:=p1) _ (by decide) (by simp only[go_sem,hk,ho]<;>rfl)) ?_
  rintro _ ⟨p2,t,rfl,b1,b2,b3⟩
  simp only[go_sem,reduceCtorEq,↓reduceIte,nA,nB,nC,nD,nE,iA,iB,iC,iD,iE,iF,hk,hG.low]
  refine W.step (text_w (p:=p2) _ (by simp only[go_sem,hk,ho]<;>rfl)) ?_
  rintro _ ⟨p3,x3,rfl,c1,c2,c3⟩
  simp only[go_sem,reduceCtorEq,↓reduceIte,nA,nB,nC,nD,nE,iA,iB,iC,iD,iE,iF,hk,hG.low]
  refine key p3 t (by repeat (first|exact PS.le_refl|assumption|(apply PS.le_trans;assumption))) (by omega) fun hb=>?_
  obtain⟨b4,b5,b6⟩:=b3 (c3 hb)
  have:=PS.le_w a1
  have:=PS.le_w c1
  have:=wt_3 b5
  omega
 ·simp only[go_sem,reduceCtorEq,↓reduceIte,nA,nB,nC,nD,nE,iA,iB,iC,iD,iE,iF,hk,hG.low,d]
  refine W.step (want_w (p:=p) _ (by decide) (by simp only[go_sem,hk,ho]<;>rfl)) ?_
  rintro _ ⟨p2,t,rfl,b1,b2,b3⟩
  simp only[go_sem,reduceCtorEq,↓reduceIte,nA,nB,nC,nD,nE,iA,iB,iC,iD,iE,iF,hk,hG.low]
  refine key p2 t (by repeat (first|exact PS.le_refl|assumption|(apply PS.le_trans;assumption))) (by omega) fun hb=>?_
  obtain⟨b4,b5,b6⟩:=b3 hb
  have:=wt_1 b5
  omega
end Go.Am
namespace Go.Am
open Go
theorem block_w {f:Nat} {caps:List AV} {k c0 m0:Nat} (Inv:PS→St→Prop) (s:St)
  (hc:∀ p t,Inv p t→cnt t=c0∧obj t k=some p.ob)
  (hset:∀ p p' t,Inv p t→p.le p'→p'.m≤p.m→Inv p' (setOb t k p'.ob))
  (hone:∀ p t,Inv p t→p.bad=false→p.m<m0→W (C F0 X0 f caps t) fun q=>∃ (p':PS) (t':St),q=(.tup [],t')∧Inv p' t'∧p.le p'∧p'.m≤p.m - 1)
  (hback:∀ p t n,Inv p t→Inv p (back s (.i .i64 n) t))
  (p:PS) (h:Inv p s) (hm:p.m≤m0):W (C F0 X0 12 [.ref k 0,.clo f caps] s) fun q=>∃ (p':PS) (t:St) (n:Int),q=(.i .i64 n,t)∧Inv p' t∧p.le p'∧p'.m≤p.m - 1:=by
 obtain⟨hcn,ho⟩:=hc _ _ h
 have hk:=obj_lt ho
 rw[w_call (f:=12) rfl]
 simp only[go_sem,reduceCtorEq,↓reduceIte,nA,nB,nC,nD,nE,iA,iB,iC,iD,iE,iF,hk]
 refine W.step (text_w (p:=p) _ (by simp only[go_sem,hk,ho]<;>rfl)) ?_
 rintro _ ⟨p1,x1,rfl,a1,a2,a3⟩
 simp only[go_sem,reduceCtorEq,↓reduceIte,nA,nB,nC,nD,nE,iA,iB,iC,iD,iE,iF,hk]
 refine W.step (W.loop (L:=l12_0) (Q:=fun q=>∃ (pc:PS) (t:St) (n:Int) (ex:Env),q=(.exit 0,[(0,.ref k 0),(1,.clo f caps),(5,.i .i64 n)]++ex,t)∧Inv pc t∧p.le pc∧pc.m≤p1.m) rfl (fun i e t=>∃ (pc:PS) (n:Int) (ex:Env),i=pc.m∧e=[(0,.ref k 0),(1,.clo f caps),(5,.i .i64 n)]++ex∧Inv pc t∧p.le pc∧pc.m≤p1.m) ?_ _ _ _ ⟨p1,0,[],rfl,rfl,hset _ _ _ h a1 (PS.le_m a1),a1,Nat.le_refl _⟩) ?_
 ·rintro i e t ⟨pc,n,ex,rfl,rfl,hI,hle,hmm⟩
  obtain⟨hcn2,ho2⟩:=hc _ _ hI
  have hk2:=obj_lt ho2
  simp only[go_sem,reduceCtorEq,↓reduceIte,nA,nB,nC,nD,nE,iA,iB,iC,iD,iE,iF,hk2,ho2]
  refine W.ifc (fun d=>?_) (fun d=>?_)
  ·simp only[go_sem,reduceCtorEq,↓reduceIte,nA,nB,nC,nD,nE,iA,iB,iC,iD,iE,iF,d]
   exact⟨pc,t,n,_,rfl,hI,hle,hmm⟩
  ·have hmp:=PS.m_ok d
   simp only[go_sem,reduceCtorEq,↓reduceIte,nA,nB,nC,nD,nE,iA,iB,iC,iD,iE,iF,d]
   refine W.step (is_w (p:=pc) _ ho2) ?_
   rintro _ rfl
   simp only[go_sem,reduceCtorEq,↓reduceIte,nA,nB,nC,nD,nE,iA,iB,iC,iD,iE,iF,hk2]
   refine W.ifc (fun d2=>?_) (fun d2=>?_)
   ·simp only[go_sem,reduceCtorEq,↓reduceIte,nA,nB,nC,nD,nE,iA,iB,iC,iD,iE,iF,d2]
    exact⟨pc,t,n,_,rfl,hI,hle,hmm⟩
   ·simp only[go_sem,reduceCtorEq,↓reduceIte,nA,nB,nC,nD,nE,iA,iB,iC,iD,iE,iF,d2]
    refine W.step (is_w (p:=pc) _ ho2) ?_
    rintro _ rfl
    simp only[go_sem,reduceCtorEq,↓reduceIte,nA,nB,nC,nD,nE,iA,iB,iC,iD,iE,iF,hk2]
    refine W.ifc (fun d3=>?_) (fun d3=>?_)
    ·have dl:=PS.is_lv d3
     simp only[go_sem,reduceCtorEq,↓reduceIte,nA,nB,nC,nD,nE,iA,iB,iC,iD,iE,iF,d3]
     refine W.step (next_w (p:=pc) ho2) ?_
     rintro _ ⟨p2,rfl,b1,b2,b3⟩
     simp only[go_sem,reduceCtorEq,↓reduceIte,nA,nB,nC,nD,nE,iA,iB,iC,iD,iE,iF,hk2]
     exact⟨p2.m,by omega,p2,n,[],rfl,rfl,hset _ _ _ hI b1 (by omega),(by repeat (first|exact PS.le_refl|assumption|(apply PS.le_trans;assumption))),by omega⟩
    ·simp only[go_sem,reduceCtorEq,↓reduceIte,nA,nB,nC,nD,nE,iA,iB,iC,iD,iE,iF,d3]
     refine W.step (hone pc t hI d (by omega)) ?_
     rintro _ ⟨p2,t2,rfl,hI2,b1,b2⟩
     obtain⟨hcn3,ho3⟩:=hc _ _ hI2
     have hk3:=obj_lt ho3
     simp only[go_sem,reduceCtorEq,↓reduceIte,nA,nB,nC,nD,nE,iA,iB,iC,iD,iE,iF,hk3]
     refine W.step (is_w (p:=p2) _ ho3) ?_
     rintro _ rfl
     simp only[go_sem,reduceCtorEq,↓reduceIte,nA,nB,nC,nD,nE,iA,iB,iC,iD,iE,iF,hk3]
     repeat' (first
      | (refine W.ifc (fun d=>?_) (fun d=>?_)<;>simp only[go_sem,reduceCtorEq,↓reduceIte,nA,nB,nC,nD,nE,iA,iB,iC,iD,iE,iF,d,hk3,Bool.not_true,Bool.not_false])
      | (refine W.step (is_w (p:=p2) _ ho3) ?_;rintro _ rfl;simp only[go_sem,reduceCtorEq,↓reduceIte,nA,nB,nC,nD,nE,iA,iB,iC,iD,iE,iF,hk3])
      | (refine W.step (fails_w (p:=p2) _ ho3) ?_;rintro _ ⟨p3,rfl,c1,c2,c3,c4⟩;simp only[go_sem,reduceCtorEq,↓reduceIte,nA,nB,nC,nD,nE,iA,iB,iC,iD,iE,iF,hk3]))
     all_goals first
      | exact⟨p2.m,by omega,p2,_,_,rfl,rfl,hI2,(by repeat (first|exact PS.le_refl|assumption|(apply PS.le_trans;assumption))),by omega⟩
      | exact⟨p3.m,by omega,p3,_,_,rfl,rfl,hset _ _ _ hI2 c1 (by omega),(by repeat (first|exact PS.le_refl|assumption|(apply PS.le_trans;assumption))),by omega⟩
 ·rintro q ⟨pc,t,n,ex,rfl,hI,hle,hmm⟩
  obtain⟨hcn2,ho2⟩:=hc _ _ hI
  simp only[go_sem,reduceCtorEq,↓reduceIte,nA,nB,nC,nD,nE,iA,iB,iC,iD,iE,iF,hcn2,hcn]
  exact⟨pc,_,n,rfl,hback _ _ _ hI,hle,by omega⟩
end Go.Am
namespace Go.Am
open Go
theorem back_ob {s s2:St} {v:AV} {r:Nat} {o:Ob} (h:obj s2 r=some o) (h1:o.alow s.nxt=false) (h2:obj s r≠some o):back s v s2=s2:=if_neg fun hc=>by
 rcases hc.2.2 r o h with h3|h3
 ·exact h2 h3
 ·rw[h1] at h3;cases h3
theorem back_or (s:St) (v:AV) (s2:St):back s v s2=s2∨back s v s2=wa s2 s.arr s.nxt:=by
 unfold back
 split
 ·exact .inr rfl
 ·exact .inl rfl
theorem chunk_93 {a b c d e f g h i a' b' c' d' e' f' g' h' i' a2 b2 c2 d2 e2 f2 g2 h2 i2:AV}:chunk (.st 9) 3 [a,b,c,d,e,f,g,h,i,a',b',c',d',e',f',g',h',i',a2,b2,c2,d2,e2,f2,g2,h2,i2]=ifk (AV.finL [a,b,c,d,e,f,g,h,i]&&(AV.finL [a',b',c',d',e',f',g',h',i']&&AV.finL [a2,b2,c2,d2,e2,f2,g2,h2,i2])) [.agg [a,b,c,d,e,f,g,h,i],.agg [a',b',c',d',e',f',g',h',i'],.agg [a2,b2,c2,d2,e2,f2,g2,h2,i2]]:=by
 show (if AV.finL [a,b,c,d,e,f,g,h,i]=true then ((if AV.finL [a',b',c',d',e',f',g',h',i']=true then ((if AV.finL [a2,b2,c2,d2,e2,f2,g2,h2,i2]=true then _ else _):Option _).map _ else none):Option _).map _ else none)=_
 cases AV.finL [a,b,c,d,e,f,g,h,i]<;>cases AV.finL [a',b',c',d',e',f',g',h',i']<;>cases AV.finL [a2,b2,c2,d2,e2,f2,g2,h2,i2]<;>rfl
theorem strs_finl {l:List Str}:AV.finL (strs l)=true:=finL_strs
theorem bvs_finl {e:Xp}:AV.finL e.bvs=true:=by
 have:=e.fin
 rw[Xp.av_eq] at this
 simp only[fin_agg,finL_c,lst_fin',Bool.and_eq_true] at this
 exact this.2.2.2.2.2.2.1
attribute [go_sem] chunk_93 strs_finl bvs_finl
theorem Loc2.push2' {A0 A:Nat→Option (List AV)} {n0 N:Nat} {e1 e2:El} {v1 v2:AV} {xs ys:List AV} {y:AV} {cy:List AV} (h:Loc2 A0 n0 A N e1 v1 xs e2 v2 ys) (hc:y.cells=cy) (hy:Ele e2 y) (hm:ys.length+1≤most) :
  ∃ v' A' N',(∀ u,agrow (newAr (wa u A N) cy) e2 1 cy v2=some (v',wa u A' N'))∧Loc2 A0 n0 A' N' e1 v1 xs e2 v' (ys++[y])∧∃ i n,v'=.os i e2 n∧N≤i:=by
 obtain⟨d1,d2,h1,h2,h3,h4,h5,h6,h7,h8⟩:=h.swap
 obtain⟨v',A',N',d',k1,k2,k3,k4,k5,k6⟩:=h1.push' cy hc hy hm
 refine⟨v',A',N',k1,Loc2.swap ⟨d',d2,k2,h2.mono fun a ha=>⟨k4 a (h2.lt ha) fun h=>(h3 a h).2 ha,Nat.lt_of_lt_of_le (h2.lt ha) k3⟩,fun a ha=>⟨Nat.le_trans h6 (k5 a ha),fun h=>by have:=h2.lt h;have:=k5 a ha;omega⟩,h4,fun a ha=>(k4 a (by omega) fun h=>by have:=(h3 a h).1;omega).trans (h5 a ha),by omega,fun h=>by simp at h,h8⟩,?_⟩
 obtain⟨-,⟨w1,-⟩|⟨i,cs,w1,-,-,-,w2⟩⟩:=k2
 ·exact (k6 w1).elim
 ·exact⟨i,_,w1,k5 i w2⟩
theorem GB.ne {A0 A:Nat→Option (List AV)} {n0 N:Nat} {l:AV} {es:List Ent} (h:GB A0 n0 A N l es) {i n:Nat} {el:El} (hi:N≤i):l≠.os i el n:=fun e=>by
 rcases h.row with ⟨rfl,-⟩|⟨a,rfl,-,-,h3,-⟩
 ·cases e
 ·injection e with e;omega
theorem Loc2.hi {A0 A:Nat→Option (List AV)} {n0 N:Nat} {e1 e2:El} {v:AV} {x:AV} {ys:List AV} (h:Loc2 A0 n0 A N e1 (.os n0 e1 1) [x] e2 v ys) (hne:ys≠[]):∃ a m,v=.os a e2 m∧n0<a:=by
 obtain⟨d1,d2,h1,h2,h3,h4,h5,h6,h7,h8⟩:=h
 obtain⟨-,⟨w1,-⟩|⟨i,cs,w1,-,-,-,w2⟩⟩:=h1
 ·cases w1
 injection w1 with w1
 subst w1
 obtain⟨-,⟨w3,w4,-⟩|⟨j,cs',w3,-,-,-,w4⟩⟩:=h2
 ·exact (hne w4).elim
 have k1:=(h3 n0 w2).2
 have k2:=h4 j w4
 refine⟨j,_,w3,?_⟩
 rcases Nat.lt_or_ge n0 j with h|h
 ·exact h
 ·have:j=n0:=by omega
  subst this
  exact (k1 w4).elim
theorem Loc2.ne2 {A0 A:Nat→Option (List AV)} {n0 N:Nat} {e1 e2:El} {v1 v2:AV} {xs ys:List AV} (h:Loc2 A0 n0 A N e1 v1 xs e2 v2 ys) {i n:Nat} {el:El} (hi:N≤i):v2≠.os i el n:=fun e=>by
 obtain⟨d1,d2,h1,h2,h3,h4,h5,h6,h7,h8⟩:=h
 obtain⟨-,⟨w3,w4,-⟩|⟨j,cs',w3,-,-,w5,w4⟩⟩:=h2
 ·rw[e] at w3;cases w3
 ·rw[e] at w3;injection w3 with w3;omega
theorem let_fz {A0 A:Nat→Option (List AV)} {n0 N:Nat} {l:AV} {es:List Ent} (h:GB A0 n0 A N l es) (r:Xp) (ll c:Int) :
  ∃ B,Old n0 B A0∧∀ u,frz 20000 (.agg [.i .i64 6,.s [],.i .i64 0,.nsl,.os N (.st 9) 1,.nsl,l,.i .i64 ll,.i .i64 c]) (newAr (wa u A N) r.av.cells)=some ((Xp.gen .lt [] 0 [] [r] [] (es.map Ent.b) ll c).av,wa u B (N+1)):=by
 have q1:FzL 4 (upd A N (some r.av.cells)) [.i .i64 6,.s [],.i .i64 0,.nsl] [.i .i64 6,.s [],.i .i64 0,.nsl] []:=(FzL.scal rfl).ups 3
 have q2:FzL 4 (upd A N (some r.av.cells)) [.os N (.st 9) 1] [.sl (.st 9) [r.av]] [N]:=(FzL.arr (xs:=[r.av]) (by rw[upd_same];simp) (by intro x hx;rw[List.mem_singleton.1 hx];exact r.ele)).ups 2
 have q3:FzL 4 (upd A N (some r.av.cells)) [.nsl] [.nsl] []:=(FzL.scal rfl).ups 3
 have q4:FzL 4 (upd A N (some r.av.cells)) [l] [lst (.st 4) (es.map fun e=>e.b.av)] (foot l es):=h.fz.mono fun a ha=>upd_other (by have:=(h.foot_lt ha).2;omega)
 have q5:FzL 4 (upd A N (some r.av.cells)) [.i .i64 ll,.i .i64 c] [.i .i64 ll,.i .i64 c] []:=(FzL.scal rfl).ups 3
 have q:=(((q1.app q2 (by simp)).app q3 (by simp)).app q4 (by intro a ha;simp;have:=(h.foot_lt ha).2;omega)).app q5 (by simp)
 refine⟨_,clr_old (D:=(((([]++[N])++[])++foot l es)++[])) (old_upd (x:=some r.av.cells) h.old h.le) (fun a ha=>?_),fun u=>?_⟩
 ·simp at ha
  rcases ha with rfl|ha
  ·exact h.le
  ·exact (h.foot_lt ha).1
 ·rw[newAr_wa2]
  have:=q.agg (n:=19995) (s:=u) (M:=N+1)
  have e1:(Xp.gen .lt [] 0 [] [r] [] (es.map Ent.b) ll c).av=.agg [.i .i64 6,.s [],.i .i64 0,.nsl,.sl (.st 9) [r.av],.nsl,lst (.st 4) (es.map fun e=>e.b.av),.i .i64 ll,.i .i64 c]:=by
   show AV.agg _=_
   rw[Bnd.avs_map,List.map_map]
   rfl
  rw[e1]
  exact this
theorem cas_fz {A0 A:Nat→Option (List AV)} {n0 N a:Nat} {v:AV} {r:Xp} {als:List Alt} (h:Loc2 A0 n0 A N (.st 9) (.os a (.st 9) 1) [r.av] (.st 7) v (als.map Alt.av)) (ll c:Int) :
  ∃ B,Old n0 B A0∧∀ u,frz 20000 (.agg [.i .i64 7,.s [],.i .i64 0,.nsl,.os a (.st 9) 1,v,.nsl,.i .i64 ll,.i .i64 c]) (wa u A N)=some ((Xp.gen .cas [] 0 [] [r] als [] ll c).av,wa u B N):=by
 obtain⟨A1,A2,h1,h2,h3⟩:=h.fin
 refine⟨A2,h3,fun u=>?_⟩
 have e1:(Xp.gen .cas [] 0 [] [r] als [] ll c).av=.agg [.i .i64 7,.s [],.i .i64 0,.nsl,lst (.st 9) [r.av],lst (.st 7) (als.map Alt.av),.nsl,.i .i64 ll,.i .i64 c]:=by
  show AV.agg _=_
  rw[Alt.avs_map]
  rfl
 rw[e1]
 simp only[frz_agg,frzAll_cons,frz_i,frz_s,frz_nsl,h1,h2,frzAll_nil,Option.bind_some]
structure AppV (s:St) (A:Nat→Option (List AV)) (N:Nat) (w3 w4 w5 w6:AV) (kd nn ll cc:Int) (nm:Str) (e:Xp) (m:Nat) (D:List Nat):Prop where
 fz:FzL m A [.i .i64 kd,.s nm,.i .i64 nn,w3,w4,w5,w6,.i .i64 ll,.i .i64 cc] e.av.cells D
 D:∀ a∈D,s.nxt≤a∧a<N
 old:Old s.nxt A s.arr
 le:s.nxt≤N
 lo:∀ n,w3.low n=true∧w4.low n=true∧w5.low n=true∧w6.low n=true
 one:w3.cells=[w3]∧w4.cells=[w4]∧w5.cells=[w5]∧w6.cells=[w6]
theorem AppV.init (s:St) (r:Xp):AppV s s.arr s.nxt (lst .one (strs r.params)) (lst (.st 9) (r.args.map Xp.av)) (lst (.st 7) (r.alts.map Alt.av)) (lst (.st 4) r.bvs) r.kind r.n r.l r.c r.name r 1 []:=by
 refine⟨?_,(fun a h=>nomatch h),Old.refl,Nat.le_refl _,fun n=>⟨lst_low,lst_low,lst_low,lst_low⟩,lst_cells,lst_cells,lst_cells,lst_cells⟩
 have:=FzL.scal (A:=s.arr) (xp_finc r)
 rw[Xp.cells_eq] at this ⊢
 exact this
theorem AppV.app {s:St} {A:Nat→Option (List AV)} {N:Nat} {w3 w4 w5 w6:AV} {kd nn ll cc:Int} {nm:Str} {e:Xp} {m:Nat} {D:List Nat} (h:AppV s A N w3 w4 w5 w6 kd nn ll cc nm e m D) (hm:1≤m) (a:Xp) :
  AppV s (upd A N (some ([.i .i64 kd,.s nm,.i .i64 nn,w3,w4,w5,w6,.i .i64 ll,.i .i64 cc]++a.av.cells))) (N+1) .nsl (.os N (.st 9) 2) .nsl .nsl 4 0 ll cc [] (.app e a ll cc) (m+1) (N::D):=by
 refine⟨?_,fun b hb=>?_,old_upd h.old h.le,by have:=h.le;omega,fun n=>⟨rfl,rfl,rfl,rfl⟩,rfl,rfl,rfl,rfl⟩
 ·have h1:FzL m (upd A N (some ([.i .i64 kd,.s nm,.i .i64 nn,w3,w4,w5,w6,.i .i64 ll,.i .i64 cc]++a.av.cells))) ([.i .i64 kd,.s nm,.i .i64 nn,w3,w4,w5,w6,.i .i64 ll,.i .i64 cc]++a.av.cells) (e.av.cells++a.av.cells) D:=by
   have h2:FzL m (upd A N (some ([.i .i64 kd,.s nm,.i .i64 nn,w3,w4,w5,w6,.i .i64 ll,.i .i64 cc]++a.av.cells))) a.av.cells a.av.cells []:=by
    have:=(FzL.scal (A:=upd A N (some ([.i .i64 kd,.s nm,.i .i64 nn,w3,w4,w5,w6,.i .i64 ll,.i .i64 cc]++a.av.cells))) (xp_finc a)).ups (m - 1)
    rw[show 1+(m - 1)=m by omega] at this
    exact this
   have:=(h.fz.mono (A':=upd A N (some ([.i .i64 kd,.s nm,.i .i64 nn,w3,w4,w5,w6,.i .i64 ll,.i .i64 cc]++a.av.cells))) fun b hb=>upd_other (by have:=(h.D b hb).2;omega)).app h2 (by simp)
   rw[List.append_nil] at this
   exact this
  have hch:=chunk_flat (el:=.st 9) [e.av,a.av] [] (by intro y hy;simp at hy;rcases hy with rfl|rfl<;>exact (Xp.ele _).elem)
  simp only[List.append_nil,List.flatMap_cons,List.flatMap_nil,List.length_cons,List.length_nil] at hch
  have hal:a.av.cells.length=9:=by rw[Xp.cells_eq];rfl
  have h3:=FzL.os (A:=upd A N (some ([.i .i64 kd,.s nm,.i .i64 nn,w3,w4,w5,w6,.i .i64 ll,.i .i64 cc]++a.av.cells))) (cs:=[.i .i64 kd,.s nm,.i .i64 nn,w3,w4,w5,w6,.i .i64 ll,.i .i64 cc]++a.av.cells) (a:=N) (el:=.st 9) (k:=2) (by rw[List.take_of_length_le (by rw[List.length_append,hal];exact Nat.le_refl _)];exact h1) upd_same (fun hh=>by have:=(h.D N hh).2;omega) hch
  have k1:FzL (m+1) (upd A N (some ([.i .i64 kd,.s nm,.i .i64 nn,w3,w4,w5,w6,.i .i64 ll,.i .i64 cc]++a.av.cells))) [.i .i64 4,.s [],.i .i64 0,.nsl] [.i .i64 4,.s [],.i .i64 0,.nsl] []:=by
   have:=(FzL.scal (A:=upd A N (some ([.i .i64 kd,.s nm,.i .i64 nn,w3,w4,w5,w6,.i .i64 ll,.i .i64 cc]++a.av.cells))) (vs:=[.i .i64 4,.s [],.i .i64 0,.nsl]) rfl).ups m
   rw[Nat.add_comm] at this
   exact this
  have k2:FzL (m+1) (upd A N (some ([.i .i64 kd,.s nm,.i .i64 nn,w3,w4,w5,w6,.i .i64 ll,.i .i64 cc]++a.av.cells))) [.nsl,.nsl,.i .i64 ll,.i .i64 cc] [.nsl,.nsl,.i .i64 ll,.i .i64 cc] []:=by
   have:=(FzL.scal (A:=upd A N (some ([.i .i64 kd,.s nm,.i .i64 nn,w3,w4,w5,w6,.i .i64 ll,.i .i64 cc]++a.av.cells))) (vs:=[.nsl,.nsl,.i .i64 ll,.i .i64 cc]) rfl).ups m
   rw[Nat.add_comm] at this
   exact this
  have:=(k1.app h3 (by simp)).app k2 (by simp)
  rw[List.append_nil,List.nil_append] at this
  exact this
 ·rcases List.mem_cons.1 hb with rfl|hb
  ·exact⟨h.le,Nat.lt_succ_self _⟩
  ·have:=h.D b hb;omega
theorem AppV.fin {s:St} {A:Nat→Option (List AV)} {N:Nat} {w3 w4 w5 w6:AV} {kd nn ll cc:Int} {nm:Str} {e:Xp} {m:Nat} {D:List Nat} (h:AppV s A N w3 w4 w5 w6 kd nn ll cc nm e m D) (hm:m≤19999) :
  Old s.nxt (clr A D) s.arr∧∀ u,frz 20000 (.agg [.i .i64 kd,.s nm,.i .i64 nn,w3,w4,w5,w6,.i .i64 ll,.i .i64 cc]) (wa u A N)=some (e.av,wa u (clr A D) N):=by
 refine⟨clr_old h.old fun a ha=>(h.D a ha).1,fun u=>?_⟩
 have:=h.fz.agg (n:=19999 - m) (s:=u) (M:=N)
 rw[show 19999 - m+m+1=20000 by omega] at this
 rw[this,Xp.av_eq]
 rfl
theorem operand_step (n:Nat) (haexp:AexpL (n+1)) (hlam:LambdaL (n+1)) (hexpr:ExprL n) (hcl:ClauseL n) (halt:AltL n):OperandL (n+1):=by
 intro p s k ho hn
 have hk:=obj_lt ho
 have hlv:=@PS.lv_le p
 rw[XpW,w_call (f:=127) rfl]
 simp only[go_sem,reduceCtorEq,↓reduceIte,nA,nB,nC,nD,nE,iA,iB,iC,iD,iE,iF,hk]
 repeat' (first
   | (refine W.ifc (fun d=>?_) (fun d=>?_)<;>(try have dl:=PS.is_lv d)<;>(try have dl:=PS.isk_lv d (by decide))<;>(try have dl:=a1 d)<;>(try have dl:=PS.peek_lv d (by decide))<;>(try have dm:=PS.m_ok d)<;>(try have dm:=PS.m_bad d)<;>simp only[go_sem,reduceCtorEq,↓reduceIte,nA,nB,nC,nD,nE,iA,iB,iC,iD,iE,iF,d,hk,Bool.true_or,Bool.false_or,Bool.false_and,Bool.true_and])
   | (refine W.step (is_w _ (by simp only[go_sem,hk,ho]<;>rfl)) ?_;rintro _ rfl;simp only[go_sem,reduceCtorEq,↓reduceIte,nA,nB,nC,nD,nE,iA,iB,iC,iD,iE,iF,hk])
   | (refine W.step (isk_w _ (by simp only[go_sem,hk,ho]<;>rfl)) ?_;rintro _ rfl;simp only[go_sem,reduceCtorEq,↓reduceIte,nA,nB,nC,nD,nE,iA,iB,iC,iD,iE,iF,hk])
   | (refine W.step (peek_w (by simp only[go_sem,hk,ho]<;>rfl)) ?_;rintro _ rfl;simp only[go_sem,reduceCtorEq,↓reduceIte,nA,nB,nC,nD,nE,iA,iB,iC,iD,iE,iF,hk])
   | (refine W.step (next_w (by simp only[go_sem,hk,ho]<;>rfl)) ?_;rintro _ ⟨p2,rfl,a1,a2,a3⟩;simp only[go_sem,reduceCtorEq,↓reduceIte,nA,nB,nC,nD,nE,iA,iB,iC,iD,iE,iF,hk])
   | (refine W.step (minus_w (by simp only[go_sem,hk,ho]<;>rfl)) ?_;rintro _ ⟨p2,rfl,a1,a2,a3⟩;simp only[go_sem,reduceCtorEq,↓reduceIte,nA,nB,nC,nD,nE,iA,iB,iC,iD,iE,iF,hk])
   | (refine W.step (plain_w (by simp only[go_sem,hk,ho]<;>rfl)) ?_;rintro _ ⟨p2,n2,l2,c2,rfl,a1,a2⟩;simp only[go_sem,reduceCtorEq,↓reduceIte,nA,nB,nC,nD,nE,iA,iB,iC,iD,iE,iF,hk])
   | (refine W.step (number_w (by simp only[go_sem,hk,ho]<;>rfl)) ?_;rintro _ ⟨p2,n2,l2,c2,rfl,a1,a2⟩;simp only[go_sem,reduceCtorEq,↓reduceIte,nA,nB,nC,nD,nE,iA,iB,iC,iD,iE,iF,hk])
   | (refine W.step (ahead_w _ _ (by simp only[go_sem,hk,ho]<;>rfl)) ?_;rintro _ ⟨b2,rfl,a1⟩;simp only[go_sem,reduceCtorEq,↓reduceIte,nA,nB,nC,nD,nE,iA,iB,iC,iD,iE,iF,hk])
   | (refine W.step (pattern_w (by simp only[go_sem,hk,ho]<;>rfl)) ?_;rintro _ ⟨b2,rfl,a1⟩;simp only[go_sem,reduceCtorEq,↓reduceIte,nA,nB,nC,nD,nE,iA,iB,iC,iD,iE,iF,hk])
   | (refine W.step (argument_w (by simp only[go_sem,hk,ho]<;>rfl)) ?_;rintro _ ⟨b2,rfl,a1⟩;simp only[go_sem,reduceCtorEq,↓reduceIte,nA,nB,nC,nD,nE,iA,iB,iC,iD,iE,iF,hk])
   | (refine W.step (atomic_w (by simp only[go_sem,hk,ho]<;>rfl)) ?_;rintro _ ⟨b2,rfl,a1⟩;simp only[go_sem,reduceCtorEq,↓reduceIte,nA,nB,nC,nD,nE,iA,iB,iC,iD,iE,iF,hk])
   | (refine W.step (operator_w (by simp only[go_sem,hk,ho]<;>rfl)) ?_;rintro _ ⟨b2,rfl,a1⟩;simp only[go_sem,reduceCtorEq,↓reduceIte,nA,nB,nC,nD,nE,iA,iB,iC,iD,iE,iF,hk])
   | (refine W.step (text_w _ (by simp only[go_sem,hk,ho]<;>rfl)) ?_;rintro _ ⟨p2,x2,rfl,a1,a2,a3⟩;simp only[go_sem,reduceCtorEq,↓reduceIte,nA,nB,nC,nD,nE,iA,iB,iC,iD,iE,iF,hk])
   | (refine W.step (want_w _ (by decide) (by simp only[go_sem,hk,ho]<;>rfl)) ?_;rintro _ ⟨p2,x2,rfl,a1,a2,a3⟩;simp only[go_sem,reduceCtorEq,↓reduceIte,nA,nB,nC,nD,nE,iA,iB,iC,iD,iE,iF,hk])
   | (refine W.step (fails_w _ (by simp only[go_sem,hk,ho]<;>rfl)) ?_;rintro _ ⟨p2,rfl,a1,a2,a3,a4⟩;simp only[go_sem,reduceCtorEq,↓reduceIte,nA,nB,nC,nD,nE,iA,iB,iC,iD,iE,iF,hk])
   | (refine W.step (hexpr _ _ _ (by simp only[go_sem,hk,ho]<;>rfl) (by omega)) ?_;rintro _ ⟨p2,r2,rfl,a1,a2,a3⟩;simp only[go_sem,reduceCtorEq,↓reduceIte,nA,nB,nC,nD,nE,iA,iB,iC,iD,iE,iF,hk])
   | (refine W.step (hlam _ _ _ (by simp only[go_sem,hk,ho]<;>rfl) (by omega) (by assumption)) ?_;rintro _ ⟨p2,r2,rfl,a1,a2,a3⟩;simp only[go_sem,reduceCtorEq,↓reduceIte,nA,nB,nC,nD,nE,iA,iB,iC,iD,iE,iF,hk])
   | (refine W.step (haexp _ _ _ (by simp only[go_sem,hk,ho]<;>rfl) (by omega)) ?_;rintro _ ⟨p2,r2,rfl,a1,a2,a3⟩;simp only[go_sem,reduceCtorEq,↓reduceIte,nA,nB,nC,nD,nE,iA,iB,iC,iD,iE,iF,hk]))
 ·exact⟨_,_,rfl,(by repeat (first|exact PS.le_refl|assumption|(apply PS.le_trans;assumption))),by omega,by omega⟩
 ·
  have hmle:=@PS.m_le p2
  obtain⟨l1,hl1⟩:∃ l1:List Ob,l1=[.cells [.ref k 0],.cells [.i .i64 0,.s [],.i .i64 0,.nsl,.nsl,.nsl,.nsl,.i .i64 0,.i .i64 0],.cells [.i .i64 (p.peek.line:Nat),.i .i64 (p.peek.col:Nat)]]:=⟨_,rfl⟩
  refine W.step (block_w (c0:=cnt s+4) (m0:=n) (fun pc t=>∃ (l:AV) (es:List Ent) (A:Nat→Option (List AV)) (N:Nat),t=wa (ex (setOb s k pc.ob) (l1++[.cells [.i .i64 6,.s [],.i .i64 0,.nsl,.nsl,.nsl,l,.i .i64 (p.peek.line:Nat),.i .i64 (p.peek.col:Nat)]])) A N∧GB s.arr s.nxt A N l es∧p2.le pc∧bsz es+20*pc.m≤20*p2.m) _ ?_ ?_ ?_ ?_ p2 ⟨.nsl,[],s.arr,s.nxt,by rw[hl1];rfl,GB.nil,PS.le_refl,by simp[bsz]⟩ (by omega)) ?_
  ·rintro pc t ⟨l,es,A,N,rfl,hG,hle,hsz⟩
   exact⟨by rw[hl1];simp only[go_sem],(by simp only[go_sem,hk,ho]<;>rfl)⟩
  ·rintro pc pd t ⟨l,es,A,N,rfl,hG,hle,hsz⟩ h1 h2
   exact⟨l,es,A,N,by simp only[go_sem,reduceCtorEq,↓reduceIte,nA,nB,nC,nD,nE,iA,iB,iC,iD,iE,iF,hl1,hk],hG,PS.le_trans hle h1,by omega⟩
  ·rintro pc t ⟨l,es,A,N,rfl,hG,hle,hsz⟩ hbad hm
   have hmo:=PS.m_ok hbad
   rw[w_call (f:=137) rfl]
   simp only[go_sem,reduceCtorEq,↓reduceIte,nA,nB,nC,nD,nE,iA,iB,iC,iD,iE,iF,hl1,hk]
   refine W.step (hcl pc _ _ s.arr s.nxt l es (by simp only[go_sem,hk,ho]<;>rfl) (by omega) hG (by omega)) ?_
   rintro _ ⟨p3,l',es',A',N',rfl,hG',c1,c2,c3,⟨z,c4,c5⟩,c6,c7,c8,c9⟩
   have hone:=hG'.one
   simp only[go_sem,reduceCtorEq,↓reduceIte,nA,nB,nC,nD,nE,iA,iB,iC,iD,iE,iF,hl1,hk,hG'.low,hone,hG.low]
   have hbk:back (wa (ex (setOb s k pc.ob) (l1++[.cells [.i .i64 6,.s [],.i .i64 0,.nsl,.nsl,.nsl,l,.i .i64 (p.peek.line:Nat),.i .i64 (p.peek.col:Nat)]])) A N) (.tup []) (wa (ex (setOb s k p3.ob) (l1++[.cells [.i .i64 6,.s [],.i .i64 0,.nsl,.nsl,.nsl,l',.i .i64 (p.peek.line:Nat),.i .i64 (p.peek.col:Nat)]])) A' N')=(wa (ex (setOb s k p3.ob) (l1++[.cells [.i .i64 6,.s [],.i .i64 0,.nsl,.nsl,.nsl,l',.i .i64 (p.peek.line:Nat),.i .i64 (p.peek.col:Nat)]])) A' N'):=by
    rcases c9 with ⟨i,m,rfl,hi⟩|⟨a,h1,h2⟩
    ·refine back_ob (r:=cnt s+3) (o:=.cells [.i .i64 6,.s [],.i .i64 0,.nsl,.nsl,.nsl,.os i (.st 4) m,.i .i64 (p.peek.line:Nat),.i .i64 (p.peek.col:Nat)]) (by rw[hl1];simp only[go_sem]) ?_ ?_
     ·show AV.alowL N _=false
      simp only[alowL_cons,alow_i,alow_s,alow_nsl,alow_os,alowL_nil,Bool.true_and,Bool.and_true]
      exact decide_eq_false (by have:N≤i:=hi;omega)
     ·intro hh
      rw[hl1] at hh
      simp only[go_sem] at hh
      injection hh with hh
      injection hh with hh
      simp only[List.cons.injEq,true_and] at hh
      exact hG.ne (show N≤i from hi) hh.1
    ·exact back_ch h1 h2
   rw[hl1] at hbk
   simp only[List.cons_append,List.nil_append] at hbk
   rw[hbk]
   exact⟨p3,_,rfl,⟨l',es',A',N',rfl,hG',PS.le_trans hle c1,by omega⟩,c1,c2⟩
  ·rintro pc t m ⟨l,es,A,N,rfl,hG,hle,hsz⟩
   by_cases hne:es=[]
   ·subst hne
    have hln:l=.nsl:=by
     rcases hG.row with ⟨h,-⟩|⟨a,-,-,-,-,-,h⟩
     ·exact h
     ·exact (h rfl).elim
    subst hln
    rcases back_or (ex (setOb s k p2.ob) [.cells [.ref k 0],.cells [.i .i64 0,.s [],.i .i64 0,.nsl,.nsl,.nsl,.nsl,.i .i64 0,.i .i64 0],.cells [.i .i64 (p.peek.line:Nat),.i .i64 (p.peek.col:Nat)],.cells [.i .i64 6,.s [],.i .i64 0,.nsl,.nsl,.nsl,.nsl,.i .i64 (p.peek.line:Nat),.i .i64 (p.peek.col:Nat)]]) (.i .i64 m) (wa (ex (setOb s k pc.ob) (l1++[.cells [.i .i64 6,.s [],.i .i64 0,.nsl,.nsl,.nsl,.nsl,.i .i64 (p.peek.line:Nat),.i .i64 (p.peek.col:Nat)]])) A N) with hb|hb
    ·exact⟨.nsl,[],A,N,hb,hG,hle,hsz⟩
    ·exact⟨.nsl,[],s.arr,s.nxt,hb,GB.nil,hle,hsz⟩
   ·obtain⟨init,f,a,rfl,rfl,hA⟩:=hG.last hne
    have ha:=hG.foot_lt (a:=a) (List.mem_cons_self ..)
    refine⟨_,_,A,N,back_ob (r:=cnt s+3) (o:=.cells [.i .i64 6,.s [],.i .i64 0,.nsl,.nsl,.nsl,.os a (.st 4) (init.length+1),.i .i64 (p.peek.line:Nat),.i .i64 (p.peek.col:Nat)]) (by rw[hl1];simp only[go_sem]) ?_ ?_,hG,hle,hsz⟩
    ·show AV.alowL s.nxt _=false
     simp only[alowL_cons,alow_i,alow_s,alow_nsl,alow_os,alowL_nil,Bool.true_and,Bool.and_true]
     exact decide_eq_false (by omega)
    ·intro hh
     simp only[go_sem] at hh
     injection hh with hh
     injection hh with hh
     simp only[List.cons.injEq,true_and] at hh
     cases hh.1
  ·rintro _ ⟨p3,t3,n3,rfl,⟨l,es,A,N,rfl,hG,hle,hsz⟩,b1,b2⟩
   have hone:=hG.one
   simp only[go_sem,reduceCtorEq,↓reduceIte,nA,nB,nC,nD,nE,iA,iB,iC,iD,iE,iF,hl1,hk,hG.low,hone]
   repeat' (first
   | (refine W.ifc (fun d=>?_) (fun d=>?_)<;>(try have dl:=PS.is_lv d)<;>(try have dl:=PS.isk_lv d (by decide))<;>(try have dl:=a1 d)<;>(try have dl:=PS.peek_lv d (by decide))<;>(try have dm:=PS.m_ok d)<;>(try have dm:=PS.m_bad d)<;>simp only[go_sem,reduceCtorEq,↓reduceIte,nA,nB,nC,nD,nE,iA,iB,iC,iD,iE,iF,d,hk,Bool.true_or,Bool.false_or,Bool.false_and,Bool.true_and,hG.low,hone])
   | (refine W.step (is_w _ (by simp only[go_sem,hk,ho]<;>rfl)) ?_;rintro _ rfl;simp only[go_sem,reduceCtorEq,↓reduceIte,nA,nB,nC,nD,nE,iA,iB,iC,iD,iE,iF,hk,hG.low,hone])
   | (refine W.step (isk_w _ (by simp only[go_sem,hk,ho]<;>rfl)) ?_;rintro _ rfl;simp only[go_sem,reduceCtorEq,↓reduceIte,nA,nB,nC,nD,nE,iA,iB,iC,iD,iE,iF,hk,hG.low,hone])
   | (refine W.step (peek_w (by simp only[go_sem,hk,ho]<;>rfl)) ?_;rintro _ rfl;simp only[go_sem,reduceCtorEq,↓reduceIte,nA,nB,nC,nD,nE,iA,iB,iC,iD,iE,iF,hk,hG.low,hone])
   | (refine W.step (next_w (by simp only[go_sem,hk,ho]<;>rfl)) ?_;rintro _ ⟨p2,rfl,a1,a2,a3⟩;simp only[go_sem,reduceCtorEq,↓reduceIte,nA,nB,nC,nD,nE,iA,iB,iC,iD,iE,iF,hk,hG.low,hone])
   | (refine W.step (minus_w (by simp only[go_sem,hk,ho]<;>rfl)) ?_;rintro _ ⟨p2,rfl,a1,a2,a3⟩;simp only[go_sem,reduceCtorEq,↓reduceIte,nA,nB,nC,nD,nE,iA,iB,iC,iD,iE,iF,hk,hG.low,hone])
   | (refine W.step (plain_w (by simp only[go_sem,hk,ho]<;>rfl)) ?_;rintro _ ⟨p2,n2,l2,c2,rfl,a1,a2⟩;simp only[go_sem,reduceCtorEq,↓reduceIte,nA,nB,nC,nD,nE,iA,iB,iC,iD,iE,iF,hk,hG.low,hone])
   | (refine W.step (number_w (by simp only[go_sem,hk,ho]<;>rfl)) ?_;rintro _ ⟨p2,n2,l2,c2,rfl,a1,a2⟩;simp only[go_sem,reduceCtorEq,↓reduceIte,nA,nB,nC,nD,nE,iA,iB,iC,iD,iE,iF,hk,hG.low,hone])
   | (refine W.step (ahead_w _ _ (by simp only[go_sem,hk,ho]<;>rfl)) ?_;rintro _ ⟨b2,rfl,a1⟩;simp only[go_sem,reduceCtorEq,↓reduceIte,nA,nB,nC,nD,nE,iA,iB,iC,iD,iE,iF,hk,hG.low,hone])
   | (refine W.step (pattern_w (by simp only[go_sem,hk,ho]<;>rfl)) ?_;rintro _ ⟨b2,rfl,a1⟩;simp only[go_sem,reduceCtorEq,↓reduceIte,nA,nB,nC,nD,nE,iA,iB,iC,iD,iE,iF,hk,hG.low,hone])
   | (refine W.step (argument_w (by simp only[go_sem,hk,ho]<;>rfl)) ?_;rintro _ ⟨b2,rfl,a1⟩;simp only[go_sem,reduceCtorEq,↓reduceIte,nA,nB,nC,nD,nE,iA,iB,iC,iD,iE,iF,hk,hG.low,hone])
   | (refine W.step (atomic_w (by simp only[go_sem,hk,ho]<;>rfl)) ?_;rintro _ ⟨b2,rfl,a1⟩;simp only[go_sem,reduceCtorEq,↓reduceIte,nA,nB,nC,nD,nE,iA,iB,iC,iD,iE,iF,hk,hG.low,hone])
   | (refine W.step (operator_w (by simp only[go_sem,hk,ho]<;>rfl)) ?_;rintro _ ⟨b2,rfl,a1⟩;simp only[go_sem,reduceCtorEq,↓reduceIte,nA,nB,nC,nD,nE,iA,iB,iC,iD,iE,iF,hk,hG.low,hone])
   | (refine W.step (text_w _ (by simp only[go_sem,hk,ho]<;>rfl)) ?_;rintro _ ⟨p2,x2,rfl,a1,a2,a3⟩;simp only[go_sem,reduceCtorEq,↓reduceIte,nA,nB,nC,nD,nE,iA,iB,iC,iD,iE,iF,hk,hG.low,hone])
   | (refine W.step (want_w _ (by decide) (by simp only[go_sem,hk,ho]<;>rfl)) ?_;rintro _ ⟨p2,x2,rfl,a1,a2,a3⟩;simp only[go_sem,reduceCtorEq,↓reduceIte,nA,nB,nC,nD,nE,iA,iB,iC,iD,iE,iF,hk,hG.low,hone])
   | (refine W.step (fails_w _ (by simp only[go_sem,hk,ho]<;>rfl)) ?_;rintro _ ⟨p2,rfl,a1,a2,a3,a4⟩;simp only[go_sem,reduceCtorEq,↓reduceIte,nA,nB,nC,nD,nE,iA,iB,iC,iD,iE,iF,hk,hG.low,hone]))
   all_goals
    refine W.step (hexpr _ _ _ (by simp only[go_sem,hk,ho]<;>rfl) (by omega)) ?_
    rintro _ ⟨p4,r4,rfl,e1,e2,e3⟩
    obtain⟨B,hB,hfz⟩:=let_fz hG r4 p.peek.line p.peek.col
    rw[Xp.cells_eq] at hfz
    simp only[go_sem,reduceCtorEq,↓reduceIte,nA,nB,nC,nD,nE,iA,iB,iC,iD,iE,iF,hk,hG.low,hone,hfz]
    refine⟨p4,_,by rw[back_ps hB (Xp.alow _)],(by repeat (first|exact PS.le_refl|assumption|(apply PS.le_trans;assumption))),by omega,.inr ?_⟩
    have hbz:Bnd.szs (es.map Ent.b)=bsz es:=by rw[Bnd.szs_sum,List.map_map];rfl
    show 1+0+(r4.sz+0)+0+Bnd.szs (es.map Ent.b)+_+5≤_
    omega
 ·
  refine⟨_,Xp.gen .iff [] 0 [] [_,_,_] [] [] _ _,by rw[back_ps (by repeat (first|exact Old.refl|assumption|(refine old_upd ?_ (by omega)))) (by simp[alow_agg,alow_tup,alowL_cons,alowL_nil,alow_i,alow_s,alow_b,alow_sl,alow_nsl,lst_alow])];rfl,(by repeat (first|exact PS.le_refl|assumption|(apply PS.le_trans;assumption))),by omega,.inr ?_⟩
  show 1+0+(Xp.sz _+(Xp.sz _+(Xp.sz _+0)))+0+0+_+5≤_
  omega
 ·
  have hmle:=@PS.m_le p2
  obtain⟨l1,hl1⟩:∃ l1:List Ob,l1=[.cells [.ref k 0],.cells [.i .i64 0,.s [],.i .i64 0,.nsl,.nsl,.nsl,.nsl,.i .i64 0,.i .i64 0],.cells [.i .i64 (p.peek.line:Nat),.i .i64 (p.peek.col:Nat)]]:=⟨_,rfl⟩
  refine W.step (block_w (c0:=cnt s+4) (m0:=n) (fun pc t=>∃ (v:AV) (als:List Alt) (A:Nat→Option (List AV)) (N:Nat),t=wa (ex (setOb s k pc.ob) (l1++[.cells [.i .i64 7,.s [],.i .i64 0,.nsl,.os s.nxt (.st 9) 1,v,.nsl,.i .i64 (p.peek.line:Nat),.i .i64 (p.peek.col:Nat)]])) A N∧Loc2 s.arr s.nxt A N (.st 9) (.os s.nxt (.st 9) 1) [r2.av] (.st 7) v (als.map Alt.av)∧p2.le pc∧(als.map Alt.sz).sum+20*pc.m≤20*p2.m) _ ?_ ?_ ?_ ?_ p2 ⟨.nsl,[],_,_,by rw[hl1];rfl,Loc2.init1 (Xp.cells_eq r2) r2.ele,PS.le_refl,by simp⟩ (by omega)) ?_
  ·rintro pc t ⟨v,als,A,N,rfl,hL,hle,hsz⟩
   exact⟨by rw[hl1];simp only[go_sem],(by simp only[go_sem,hk,ho]<;>rfl)⟩
  ·rintro pc pd t ⟨v,als,A,N,rfl,hL,hle,hsz⟩ h1 h2
   exact⟨v,als,A,N,by simp only[go_sem,reduceCtorEq,↓reduceIte,nA,nB,nC,nD,nE,iA,iB,iC,iD,iE,iF,hl1,hk],hL,PS.le_trans hle h1,by omega⟩
  ·rintro pc t ⟨v,als,A,N,rfl,hL,hle,hsz⟩ hbad hm
   have hmo:=PS.m_ok hbad
   have hlen:als.length≤(als.map Alt.sz).sum:=sum_len fun x _=>by cases x;unfold Alt.sz;omega
   have ho1:=hL.one2
   rw[w_call (f:=138) rfl]
   simp only[go_sem,reduceCtorEq,↓reduceIte,nA,nB,nC,nD,nE,iA,iB,iC,iD,iE,iF,hl1,hk,hL.low2]
   refine W.step (halt pc _ _ (by simp only[go_sem,hk,ho]<;>rfl) (by omega)) ?_
   rintro _ ⟨p3,r3,rfl,c1,c2,c3⟩
   obtain⟨v',A',N',k1,k2,i,m,k3,k4⟩:=hL.push2' (y:=r3.av) (cy:=r3.av.cells) rfl r3.ele (by simp;unfold most;omega)
   rw[Alt.cells_eq] at k1
   have ho2:=k2.one2
   simp only[go_sem,reduceCtorEq,↓reduceIte,nA,nB,nC,nD,nE,iA,iB,iC,iD,iE,iF,hl1,hk,hL.low2,k1,k2.low2,ho1,ho2]
   have hbk:back (wa (ex (setOb s k pc.ob) (l1++[.cells [.i .i64 7,.s [],.i .i64 0,.nsl,.os s.nxt (.st 9) 1,v,.nsl,.i .i64 (p.peek.line:Nat),.i .i64 (p.peek.col:Nat)]])) A N) (.tup []) (wa (ex (setOb s k p3.ob) (l1++[.cells [.i .i64 7,.s [],.i .i64 0,.nsl,.os s.nxt (.st 9) 1,v',.nsl,.i .i64 (p.peek.line:Nat),.i .i64 (p.peek.col:Nat)]])) A' N')=(wa (ex (setOb s k p3.ob) (l1++[.cells [.i .i64 7,.s [],.i .i64 0,.nsl,.os s.nxt (.st 9) 1,v',.nsl,.i .i64 (p.peek.line:Nat),.i .i64 (p.peek.col:Nat)]])) A' N'):=by
    refine back_ob (r:=cnt s+3) (o:=.cells [.i .i64 7,.s [],.i .i64 0,.nsl,.os s.nxt (.st 9) 1,v',.nsl,.i .i64 (p.peek.line:Nat),.i .i64 (p.peek.col:Nat)]) (by rw[hl1];simp only[go_sem]) ?_ ?_
    ·show AV.alowL N _=false
     have:v'.alow N=false:=by rw[k3,alow_os];exact decide_eq_false (by omega)
     simp only[alowL_cons,alow_i,alow_s,alow_nsl,alow_os,alowL_nil,Bool.true_and,Bool.and_true,this,Bool.false_and,Bool.and_false]
    ·intro hh
     rw[hl1] at hh
     simp only[go_sem] at hh
     injection hh with hh
     injection hh with hh
     simp only[List.cons.injEq,true_and] at hh
     exact hL.ne2 k4 (hh.1.trans k3)
   rw[hl1] at hbk
   simp only[List.cons_append,List.nil_append] at hbk
   rw[hbk]
   exact⟨p3,_,rfl,⟨v',als++[r3],A',N',rfl,by rw[List.map_append];exact k2,PS.le_trans hle c1,by simp;omega⟩,c1,c2⟩
  ·rintro pc t m ⟨v,als,A,N,rfl,hL,hle,hsz⟩
   by_cases hne:als=[]
   ·subst hne
    have hln:v=.nsl:=by obtain⟨d1,d2,-,-,-,-,-,-,-,h8⟩:=hL;exact h8 rfl
    subst hln
    rcases back_or (newAr (ex (setOb s k p2.ob) [.cells [.ref k 0],.cells [.i .i64 0,.s [],.i .i64 0,.nsl,.nsl,.nsl,.nsl,.i .i64 0,.i .i64 0],.cells [.i .i64 (p.peek.line:Nat),.i .i64 (p.peek.col:Nat)],.cells [.i .i64 7,.s [],.i .i64 0,.nsl,.os s.nxt (.st 9) 1,.nsl,.nsl,.i .i64 (p.peek.line:Nat),.i .i64 (p.peek.col:Nat)]]) [.i .i64 r2.kind,.s r2.name,.i .i64 r2.n,lst .one (strs r2.params),lst (.st 9) (r2.args.map Xp.av),lst (.st 7) (r2.alts.map Alt.av),lst (.st 4) r2.bvs,.i .i64 r2.l,.i .i64 r2.c]) (.i .i64 m) (wa (ex (setOb s k pc.ob) (l1++[.cells [.i .i64 7,.s [],.i .i64 0,.nsl,.os s.nxt (.st 9) 1,.nsl,.nsl,.i .i64 (p.peek.line:Nat),.i .i64 (p.peek.col:Nat)]])) A N) with hb|hb
    ·exact⟨.nsl,[],A,N,hb,hL,hle,hsz⟩
    ·exact⟨.nsl,[],_,_,hb,Loc2.init1 (Xp.cells_eq r2) r2.ele,hle,hsz⟩
   ·obtain⟨a,j,rfl,ha⟩:=hL.hi (by simpa using hne)
    refine⟨_,als,A,N,back_ob (r:=cnt s+3) (o:=.cells [.i .i64 7,.s [],.i .i64 0,.nsl,.os s.nxt (.st 9) 1,.os a (.st 7) j,.nsl,.i .i64 (p.peek.line:Nat),.i .i64 (p.peek.col:Nat)]) (by rw[hl1];simp only[go_sem]) ?_ ?_,hL,hle,hsz⟩
    ·show AV.alowL (s.nxt+1) _=false
     have:AV.alow (s.nxt+1) (.os a (.st 7) j)=false:=by rw[alow_os];exact decide_eq_false (by omega)
     simp only[alowL_cons,alow_i,alow_s,alow_nsl,alowL_nil,Bool.true_and,Bool.and_true,this,Bool.false_and,Bool.and_false]
    ·intro hh
     simp only[go_sem] at hh
     injection hh with hh
     injection hh with hh
     simp only[List.cons.injEq,true_and] at hh
     cases hh.1
  ·rintro _ ⟨p3,t3,n3,rfl,⟨v,als,A,N,rfl,hL,hle,hsz⟩,b1,b2⟩
   have hone:=hL.one2
   obtain⟨B,hB,hfz⟩:=cas_fz hL p.peek.line p.peek.col
   simp only[go_sem,reduceCtorEq,↓reduceIte,nA,nB,nC,nD,nE,iA,iB,iC,iD,iE,iF,hl1,hk,hL.low2,hone]
   repeat' (first
   | (refine W.ifc (fun d=>?_) (fun d=>?_)<;>(try have dl:=PS.is_lv d)<;>(try have dl:=PS.isk_lv d (by decide))<;>(try have dl:=a1 d)<;>(try have dl:=PS.peek_lv d (by decide))<;>(try have dm:=PS.m_ok d)<;>(try have dm:=PS.m_bad d)<;>simp only[go_sem,reduceCtorEq,↓reduceIte,nA,nB,nC,nD,nE,iA,iB,iC,iD,iE,iF,d,hk,Bool.true_or,Bool.false_or,Bool.false_and,Bool.true_and,hL.low2,hone,hfz])
   | (refine W.step (is_w _ (by simp only[go_sem,hk,ho]<;>rfl)) ?_;rintro _ rfl;simp only[go_sem,reduceCtorEq,↓reduceIte,nA,nB,nC,nD,nE,iA,iB,iC,iD,iE,iF,hk,hL.low2,hone,hfz])
   | (refine W.step (isk_w _ (by simp only[go_sem,hk,ho]<;>rfl)) ?_;rintro _ rfl;simp only[go_sem,reduceCtorEq,↓reduceIte,nA,nB,nC,nD,nE,iA,iB,iC,iD,iE,iF,hk,hL.low2,hone,hfz])
   | (refine W.step (peek_w (by simp only[go_sem,hk,ho]<;>rfl)) ?_;rintro _ rfl;simp only[go_sem,reduceCtorEq,↓reduceIte,nA,nB,nC,nD,nE,iA,iB,iC,iD,iE,iF,hk,hL.low2,hone,hfz])
   | (refine W.step (next_w (by simp only[go_sem,hk,ho]<;>rfl)) ?_;rintro _ ⟨p2,rfl,a1,a2,a3⟩;simp only[go_sem,reduceCtorEq,↓reduceIte,nA,nB,nC,nD,nE,iA,iB,iC,iD,iE,iF,hk,hL.low2,hone,hfz])
   | (refine W.step (minus_w (by simp only[go_sem,hk,ho]<;>rfl)) ?_;rintro _ ⟨p2,rfl,a1,a2,a3⟩;simp only[go_sem,reduceCtorEq,↓reduceIte,nA,nB,nC,nD,nE,iA,iB,iC,iD,iE,iF,hk,hL.low2,hone,hfz])
   | (refine W.step (plain_w (by simp only[go_sem,hk,ho]<;>rfl)) ?_;rintro _ ⟨p2,n2,l2,c2,rfl,a1,a2⟩;simp only[go_sem,reduceCtorEq,↓reduceIte,nA,nB,nC,nD,nE,iA,iB,iC,iD,iE,iF,hk,hL.low2,hone,hfz])
   | (refine W.step (number_w (by simp only[go_sem,hk,ho]<;>rfl)) ?_;rintro _ ⟨p2,n2,l2,c2,rfl,a1,a2⟩;simp only[go_sem,reduceCtorEq,↓reduceIte,nA,nB,nC,nD,nE,iA,iB,iC,iD,iE,iF,hk,hL.low2,hone,hfz])
   | (refine W.step (ahead_w _ _ (by simp only[go_sem,hk,ho]<;>rfl)) ?_;rintro _ ⟨b2,rfl,a1⟩;simp only[go_sem,reduceCtorEq,↓reduceIte,nA,nB,nC,nD,nE,iA,iB,iC,iD,iE,iF,hk,hL.low2,hone,hfz])
   | (refine W.step (pattern_w (by simp only[go_sem,hk,ho]<;>rfl)) ?_;rintro _ ⟨b2,rfl,a1⟩;simp only[go_sem,reduceCtorEq,↓reduceIte,nA,nB,nC,nD,nE,iA,iB,iC,iD,iE,iF,hk,hL.low2,hone,hfz])
   | (refine W.step (argument_w (by simp only[go_sem,hk,ho]<;>rfl)) ?_;rintro _ ⟨b2,rfl,a1⟩;simp only[go_sem,reduceCtorEq,↓reduceIte,nA,nB,nC,nD,nE,iA,iB,iC,iD,iE,iF,hk,hL.low2,hone,hfz])
   | (refine W.step (atomic_w (by simp only[go_sem,hk,ho]<;>rfl)) ?_;rintro _ ⟨b2,rfl,a1⟩;simp only[go_sem,reduceCtorEq,↓reduceIte,nA,nB,nC,nD,nE,iA,iB,iC,iD,iE,iF,hk,hL.low2,hone,hfz])
   | (refine W.step (operator_w (by simp only[go_sem,hk,ho]<;>rfl)) ?_;rintro _ ⟨b2,rfl,a1⟩;simp only[go_sem,reduceCtorEq,↓reduceIte,nA,nB,nC,nD,nE,iA,iB,iC,iD,iE,iF,hk,hL.low2,hone,hfz])
   | (refine W.step (text_w _ (by simp only[go_sem,hk,ho]<;>rfl)) ?_;rintro _ ⟨p2,x2,rfl,a1,a2,a3⟩;simp only[go_sem,reduceCtorEq,↓reduceIte,nA,nB,nC,nD,nE,iA,iB,iC,iD,iE,iF,hk,hL.low2,hone,hfz])
   | (refine W.step (want_w _ (by decide) (by simp only[go_sem,hk,ho]<;>rfl)) ?_;rintro _ ⟨p2,x2,rfl,a1,a2,a3⟩;simp only[go_sem,reduceCtorEq,↓reduceIte,nA,nB,nC,nD,nE,iA,iB,iC,iD,iE,iF,hk,hL.low2,hone,hfz])
   | (refine W.step (fails_w _ (by simp only[go_sem,hk,ho]<;>rfl)) ?_;rintro _ ⟨p2,rfl,a1,a2,a3,a4⟩;simp only[go_sem,reduceCtorEq,↓reduceIte,nA,nB,nC,nD,nE,iA,iB,iC,iD,iE,iF,hk,hL.low2,hone,hfz]))
   all_goals
    refine⟨_,_,by rw[back_ps hB (Xp.alow _)],(by repeat (first|exact PS.le_refl|assumption|(apply PS.le_trans;assumption))),by omega,.inr ?_⟩
    have hbz:Alt.szs als=(als.map Alt.sz).sum:=Alt.szs_sum als
    show 1+0+(r2.sz+0)+Alt.szs als+0+_+5≤_
    omega
 ·
  have hmle:=@PS.m_le p2
  have hpm:p2.m+1≤p.m∨p2.m=0:=by omega
  refine W.step (W.loop (L:=l127_0) (Q:=fun q=>∃ (pc:PS) (w3 w4 w5 w6:AV) (kd nn ll cc:Int) (nm:Str) (e:Xp) (m:Nat) (D:List Nat) (A:Nat→Option (List AV)) (N:Nat),q=(.exit 1,[(1,.ref (cnt s) 0),(2,.ref (cnt s+1) 0),(10,.ref (cnt s+3) 0),(87,.b false)],wa (ex (setOb s k pc.ob) [.cells [.ref k 0],.cells [.i .i64 0,.s [],.i .i64 0,.nsl,.nsl,.nsl,.nsl,.i .i64 0,.i .i64 0],.cells [.i .i64 (p.peek.line:Nat),.i .i64 (p.peek.col:Nat)],.cells [.i .i64 kd,.s nm,.i .i64 nn,w3,w4,w5,w6,.i .i64 ll,.i .i64 cc]]) A N)∧AppV s A N w3 w4 w5 w6 kd nn ll cc nm e m D∧1≤m∧m+pc.m≤12002∧p2.le pc∧pc.m≤p2.m∧(e.sz≤1∨e.sz+20*pc.m+5≤20*p.m)) rfl (fun i en t=>∃ (pc:PS) (w3 w4 w5 w6:AV) (kd nn ll cc:Int) (nm:Str) (e:Xp) (m:Nat) (D:List Nat) (A:Nat→Option (List AV)) (N:Nat),i=pc.m∧en=[(1,.ref (cnt s) 0),(2,.ref (cnt s+1) 0),(10,.ref (cnt s+3) 0)]∧t=wa (ex (setOb s k pc.ob) [.cells [.ref k 0],.cells [.i .i64 0,.s [],.i .i64 0,.nsl,.nsl,.nsl,.nsl,.i .i64 0,.i .i64 0],.cells [.i .i64 (p.peek.line:Nat),.i .i64 (p.peek.col:Nat)],.cells [.i .i64 kd,.s nm,.i .i64 nn,w3,w4,w5,w6,.i .i64 ll,.i .i64 cc]]) A N∧AppV s A N w3 w4 w5 w6 kd nn ll cc nm e m D∧1≤m∧m+pc.m≤12002∧p2.le pc∧pc.m≤p2.m∧(e.sz≤1∨e.sz+20*pc.m+5≤20*p.m)) ?_ _ _ _ ⟨p2,_,_,_,_,_,_,_,_,_,r2,1,[],s.arr,s.nxt,rfl,rfl,rfl,AppV.init s r2,Nat.le_refl _,by omega,PS.le_refl,Nat.le_refl _,by omega⟩) ?_
  ·rintro i en t ⟨pc,w3,w4,w5,w6,kd,nn,ll,cc,nm,e,m,D,A,N,rfl,rfl,rfl,hV,hm1,hm2,hle,hpc,hsz⟩
   obtain⟨o3,o4,o5,o6⟩:=hV.one
   have l3:=fun n=>(hV.lo n).1
   have l4:=fun n=>(hV.lo n).2.1
   have l5:=fun n=>(hV.lo n).2.2.1
   have l6:=fun n=>(hV.lo n).2.2.2
   simp only[go_sem,reduceCtorEq,↓reduceIte,nA,nB,nC,nD,nE,iA,iB,iC,iD,iE,iF,hk]
   refine W.step (argument_w (p:=pc) (by simp only[go_sem,hk,ho]<;>rfl)) ?_
   rintro _ ⟨b,rfl,hb⟩
   cases b with
   | false =>
    simp only[go_sem,reduceCtorEq,↓reduceIte,nA,nB,nC,nD,nE,iA,iB,iC,iD,iE,iF,hk]
    exact⟨pc,w3,w4,w5,w6,kd,nn,ll,cc,nm,e,m,D,A,N,rfl,hV,hm1,hm2,hle,hpc,hsz⟩
   | true =>
    have dl:=hb rfl
    have hlv2:=@PS.lv_m pc dl
    simp only[go_sem,reduceCtorEq,↓reduceIte,nA,nB,nC,nD,nE,iA,iB,iC,iD,iE,iF,hk]
    refine W.step (haexp pc _ _ (by simp only[go_sem,hk,ho]<;>rfl) (by omega)) ?_
    rintro _ ⟨p3,r3,rfl,a1,a2,a3⟩
    have hV2:=hV.app hm1 r3
    rw[Xp.cells_eq] at hV2
    simp only[go_sem,reduceCtorEq,↓reduceIte,nA,nB,nC,nD,nE,iA,iB,iC,iD,iE,iF,hk,o3,o4,o5,o6,l3,l4,l5,l6]
    refine⟨p3.m,by omega,p3,_,_,_,_,_,_,_,_,_,.app e r3 ll cc,m+1,N::D,_,_,rfl,rfl,hV2,by omega,by omega,PS.le_trans hle a1,by omega,?_⟩
    show 1+e.sz+r3.sz≤1∨1+e.sz+r3.sz+_+5≤_
    omega
  ·rintro q ⟨pc,w3,w4,w5,w6,kd,nn,ll,cc,nm,e,m,D,A,N,rfl,hV,hm1,hm2,hle,hpc,hsz⟩
   obtain⟨o3,o4,o5,o6⟩:=hV.one
   have l3:=fun n=>(hV.lo n).1
   have l4:=fun n=>(hV.lo n).2.1
   have l5:=fun n=>(hV.lo n).2.2.1
   have l6:=fun n=>(hV.lo n).2.2.2
   obtain⟨hB,hfz⟩:=hV.fin (by omega)
   simp only[go_sem,reduceCtorEq,↓reduceIte,nA,nB,nC,nD,nE,iA,iB,iC,iD,iE,iF,hk,o3,o4,o5,o6,l3,l4,l5,l6,hfz]
   exact⟨pc,e,by rw[back_ps hB (Xp.alow _)],(by repeat (first|exact PS.le_refl|assumption|(apply PS.le_trans;assumption))),by omega,by omega⟩
end Go.Am
