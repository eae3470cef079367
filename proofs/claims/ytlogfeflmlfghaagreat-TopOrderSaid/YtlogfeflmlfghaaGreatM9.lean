/- Part 9 of a machine for Go's pure part and of walks on it. -/
import Derived.Test.YtlogfeflmlfghaaGreatM8
import Derived.Test.YtlogfeflmlfghaaGreatProg
open Nat renaming reduceEqDiff → nA,reduceAdd → nB,reduceLeDiff → nC,reduceLT → nD,reduceMul → nE
open Int renaming reduceBEq → iA,reduceBNe → iB,reduceLT → iC,reduceLE → iD,reduceGT → iE,reduceGE → iF
set_option maxRecDepth 100000
set_option linter.unusedSimpArgs false
set_option linter.unusedVariables false
set_option linter.unusedSectionVars false
namespace Go.Am
open Go
def AOp.fz:AOp→Bool
 | .store _ _ _ z|.upd _ _ _ z|.app _ _ _ z|.call _ _ z=>z
 | .box0 _=>true
 | _=>false
def exs:List (Nat × Nat × List Nat × List Nat):=[(55,2,[0,1,2,3,5,6,7,4,8,9],[]),(55,5,[0,1,2,3,5,6,7,4,8,9],[]),(88,13,[0,1,2,4,3,5],[]),(88,15,[0,1,2,4,3,5],[]),(108,9,[],[8,9,0,1,2,4,5,3,6,7]),(113,7,[0,1,2,3,4,5,10,6,7,8,9,11,12],[]),(127,20,[0,1,2,5,3,4,6,7],[]),(127,23,[0,3,5,1,2,4,6],[]),(127,33,[0,1,4,5,2,3,6,7],[]),(129,7,[0,1,2,3,6,7,9,4,5,8,10],[]),(129,8,[0,1,2,3,4,7,8,5,6,9,10],[]),(135,7,[0,1,2,3,4,5,10,6,7,8,9,11,12],[])]
def exOf (f k:Nat):List Nat × List Nat:=match exs.find? fun p=>p.1==f&&p.2.1==k with|some p=>p.2.2|none=>([],[])
def fzAt (ord:List Nat) (l:List AX) (i:Nat):Bool:=(l[ord.idxOf i]?.map fun x=>x.op.fz).getD false
def hof (f:Nat):ACode→Nat→List Hint × Nat
 | .reg ks l,k =>
  let e:=exOf f k
  let o:=if e.1.isEmpty then List.range l.length else e.1
  ([⟨ks,(List.range l.length).map (fzAt o l),o,false,[]⟩],k+1)
 | .two ks _ _,k=>([⟨ks,[],[],false,(exOf f k).2⟩],k+1)
 | .seq a b,k=>let p:=hof f a k;let q:=hof f b p.2;(p.1++q.1,q.2)
 | .cond _ a b,k=>let p:=hof f a k;let q:=hof f b p.2;(p.1++q.1,q.2)
 | .block _ a,k=>hof f a k
 | .loop (.trn a),k=>let p:=hof f a (k+1);(⟨none,[],[],true,[]⟩::p.1,p.2)
 | .loop a,k=>let p:=hof f a (k+1);(⟨none,[],[],false,[]⟩::p.1,p.2)
 | .trn a,k=>hof f a k
 | _,k=>([],k)
noncomputable def trAt (k:Nat):Option AFunc :=
 match Go.Proofs.Tryz.prog.funcs[k]?,(tab0[k]?).join with
 | some fn,some a=>if fn.name == "runtime.NumGoroutine" then none else trFunc Go.Proofs.Tryz.prog fn (hof k a.body 0).1 a.fz
 | _,_=>none
theorem tab_tr:(List.range tab0.length).map trAt=tab0:=by kernel_rfl
theorem table0:Table Go.Proofs.Tryz.prog F0:=by
 intro f a h
 have hf:(tab0[f]?).join=some a:=h
 have h1:((List.range tab0.length).map trAt)[f]?=tab0[f]?:=congrArg (·[f]?) tab_tr
 have hlt:f<tab0.length:=by
  rcases Nat.lt_or_ge f tab0.length with hq|hq
  ·exact hq
  ·rw[List.getElem?_eq_none hq] at hf;cases hf
 rw[List.getElem?_map,List.getElem?_range hlt] at h1
 have h2:trAt f=some a:=by
  rw[←h1] at hf
  exact hf
 unfold trAt at h2
 rw[hf] at h2
 cases hp:Go.Proofs.Tryz.prog.funcs[f]? with
 | none=>rw[hp] at h2;cases h2
 | some fn =>
  rw[hp] at h2
  dsimp only at h2
  split at h2
  ·cases h2
  ·rename_i hn
   exact⟨fn,_,rfl,by simpa using hn,h2⟩
end Go.Am
namespace Go.Am
open Go Go.RowKit
theorem hmix:Go.Proofs.Tryz.prog.follows .mixedOrders=true:=by kernel_rfl
theorem table1:Table Go.Proofs.Tryz.prog F1:=fun f a h=>by
 unfold F1 at h
 split at h
 ·cases h
 ·exact table0 f a h
theorem X0_ok (base:Nat):SimC Go.Proofs.Tryz.prog base X0:=fun f args s r s2 h=>by cases h
theorem X1_ok (base:Nat):SimC Go.Proofs.Tryz.prog base X1:=extern_ok hmix table0 X0_ok base
end Go.Am
namespace Go.Proofs.YtlogfeflmlfghaaGreat.QN
open Go Go.Am Go.RowKit
theorem TopOrder_calls (a:ByteArray) (w:World):Calls Go.Proofs.Tryz.prog 3 #[.string a] w fun e w'=>e=.returned (.bool true)∧Below w.heap.size w w':=by
 have h:=(call_ok (base:=w.heap.size) hmix table1 (X1_ok _) (TopOrder_all a.data.toList S0)).2 ⟨fun _=>none,fun _=>none,fun _=>0,fun _=>0,fun _=>none⟩ w [.string a]
  ⟨Nat.le_refl _,(fun r b h=>nomatch h),(fun r b h=>nomatch h),(fun b k h=>nomatch h),(fun r r' b h=>nomatch h),(fun r r' b h=>nomatch h),(fun r r' b h=>nomatch h),(fun r b h=>nomatch h),(fun r b h=>nomatch h),fun _ _=>rfl,(fun r o b h=>by cases h),(fun r o b h=>by cases h),(fun r o h=>by cases h)⟩
  (by unfold VT;exact⟨_,[],rfl,(by unfold V;rfl),(by unfold VT;rfl)⟩)
 refine h.mono ?_
 rintro e w' ⟨C',u,rfl,hS,hu⟩
 unfold V at hu
 subst hu
 exact⟨rfl,hS.be⟩
end Go.Proofs.YtlogfeflmlfghaaGreat.QN
