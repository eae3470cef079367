/- Part 8 of a machine for Go's pure part and of walks on it. -/
import Derived.Test.YtlogfeflmlfghaaGreatM7
open Nat renaming reduceEqDiff → nA,reduceAdd → nB,reduceLeDiff → nC,reduceLT → nD,reduceMul → nE
open Int renaming reduceBEq → iA,reduceBNe → iB,reduceLT → iC,reduceLE → iD,reduceGT → iE,reduceGE → iF
set_option maxRecDepth 100000
set_option linter.unusedSimpArgs false
set_option linter.unusedVariables false
set_option linter.unusedSectionVars false
namespace Go.Am
open Go
open Tarjan (usesOf frOf)
def RowOf (bs:List Bnd) (b:Bnd) (l:List Int):Prop:=l.length≤b.sz∧(∀ x∈l,0≤x∧x<(bs.length:Int))∧∀ u∈usesB b,u∈bs.map Bnd.name→∃ j:Nat,(j:Int)∈l∧(bs.map Bnd.name)[j]?=some u
def GrOf (L:List (List Int)) (G:List (List Int)):Prop:=∃ (gr:Int→Int) (m:Nat),(∀ v:Int,0≤v→v<L.length→0≤gr v∧gr v<m∧∀ to∈usesOf L v,gr to≤gr v)∧(∀ g:Int,0≤g→g<m→∃ v:Int,0≤v∧v<L.length∧gr v=g)∧G=(Tarjan.order (usesOf L) gr L.length m).map (Tarjan.members gr L.length)
theorem rows_get {bs:List Bnd} {L:List (List Int)} (hl:L.length=bs.length) (hr:∀ (i:Nat) b l,bs[i]?=some b→L[i]?=some l→RowOf bs b l) (hsz:∀ b∈bs,b.sz≤900000):(∀ t,(usesOf L t).length≤1000000)∧∀ v,∀ x∈usesOf L v,0≤x∧x<(L.length:Int):=by
 have key:∀ t,usesOf L t=[]∨∃ b∈bs,RowOf bs b (usesOf L t):=fun t=>by
  unfold usesOf
  rw[List.getD_eq_getElem?_getD]
  cases hx:L[t.toNat]? with
  | none=>exact .inl rfl
  | some l =>
   have hlt:=(List.getElem?_eq_some_iff.1 hx).1
   exact .inr ⟨bs[t.toNat]'(by omega),List.getElem_mem _,hr _ _ _ (List.getElem?_eq_getElem (by omega)) hx⟩
 refine⟨fun t=>?_,fun v x hx=>?_⟩
 ·rcases key t with h|⟨b,hb,h,-⟩
  ·rw[h];simp
  ·have:=hsz b hb;omega
 ·rcases key v with h|⟨b,hb,-,h,-⟩
  ·rw[h] at hx;cases hx
  ·rw[hl];exact h x hx
theorem Binds_w (bs:List Bnd) (hl:bs.length≤2048) (hsz:∀ b∈bs,b.sz≤900000) (s:St):W (C F1 X1 7 [lst (.st 4) (bs.map Bnd.av)] s) fun q=>∃ L G,q=(uav G,s)∧L.length=bs.length∧(∀ (i:Nat) b l,bs[i]?=some b→L[i]?=some l→RowOf bs b l)∧GrOf L G:=by
 rw[w_call (f:=7) rfl]
 simp only[go_sem,reduceCtorEq,↓reduceIte,nA,nB,nC,nD,nE,iA,iB,iC,iD,iE,iF,List.length_map]
 refine W.step (W.range (n:=bs.length) (L:=l7_0) (Q:=fun q=>∃ v A N ex,q=(.exit 0,[(0,lst (.st 4) (bs.map Bnd.av)),(3,v)]++ex,wa s A N)∧Loc s.arr s.nxt A N .one v (strs (bs.map Bnd.name))) rfl (fun i e t=>∃ v A N,e=[(0,lst (.st 4) (bs.map Bnd.av)),(3,v),(15,lst (.st 4) (bs.map Bnd.av)),(16,.i .i64 (bs.length:Int)),(17,.i .i64 (i:Int))]∧t=wa s A N∧Loc s.arr s.nxt A N .one v (strs ((bs.take i).map Bnd.name))) ?_ ?_ 0 _ _ (Nat.zero_le _) ⟨.nsl,s.arr,s.nxt,rfl,rfl,Loc.nil⟩) ?_
 ·rintro i e t ⟨v,A,N,rfl,rfl,hL⟩ hi
  have h0:=List.getElem?_eq_getElem hi
  have htk:(bs.take (i+1)).map Bnd.name=(bs.take i).map Bnd.name++[bs[i].name]:=by rw[List.take_succ_eq_append_getElem hi,List.map_append];rfl
  rw[htk]
  generalize bs[i]=b at h0
  have g1:∀ k,aiad (.st 4) (lst (.st 4) (bs.map Bnd.av)) (.i k (i:Int))=some (.ep b.av.cells 0):=fun k=>lst_iad rfl (by rw[List.getElem?_map,h0];rfl)
  rw[Bnd.cells_eq] at g1
  have g3:decide ((i:Int)<(bs.length:Int))=true:=by simp;omega
  have g5:=@wrap_one i (by omega)
  obtain⟨v',A',N',k1,k2⟩:=hL.push (y:=.s b.name) (cy:=[.s b.name]) rfl (ele_one rfl) (by rw[strs_len,List.length_map,List.length_take];unfold most;omega)
  simp only[go_sem,reduceCtorEq,↓reduceIte,nA,nB,nC,nD,nE,iA,iB,iC,iD,iE,iF,g1,g3,g5,k1,hL.low,k2.low,List.length_map]
  exact⟨_,_,_,rfl,rfl,strs_push▸k2⟩
 ·rintro e t ⟨v,A,N,rfl,rfl,hL⟩
  have g3:decide ((bs.length:Int)<(bs.length:Int))=false:=by simp
  simp only[go_sem,reduceCtorEq,↓reduceIte,nA,nB,nC,nD,nE,iA,iB,iC,iD,iE,iF,g3,hL.low,List.length_map]
  rw[List.take_length] at hL
  exact⟨_,_,_,_,rfl,hL⟩
 ·rintro _ ⟨vn,A0,N0,ex,rfl,hN⟩
  obtain⟨dn,hgn,-,hon,hNn,-⟩:=id hN
  simp only[go_sem,reduceCtorEq,↓reduceIte,nA,nB,nC,nD,nE,iA,iB,iC,iD,iE,iF,hN.low,List.length_map]
  refine W.step (W.range (n:=bs.length) (L:=l7_2) (Q:=fun q=>∃ v A N D ex,∃ L:List (List Int),q=(.exit 2,[(3,vn),(6,v)]++ex,wa s A N)∧NR 2 A0 N0 A N .one v (L.map fun l=>lst .one (ints l)) D∧L.length=bs.length∧∀ (i:Nat) b l,bs[i]?=some b→L[i]?=some l→RowOf bs b l) rfl (fun i e t=>∃ v A N D,∃ L:List (List Int),e=[(3,vn),(6,v),(27,lst (.st 4) (bs.map Bnd.av)),(28,.i .i64 (bs.length:Int)),(29,.i .i64 (i:Int))]∧t=wa s A N∧NR 2 A0 N0 A N .one v (L.map fun l=>lst .one (ints l)) D∧L.length=i∧∀ (i:Nat) b l,bs[i]?=some b→L[i]?=some l→RowOf bs b l) ?_ ?_ 0 _ _ (Nat.zero_le _) ⟨.nsl,A0,N0,[],[],rfl,rfl,NR.nil,rfl,fun i b l _ h=>by cases h⟩) ?_
  ·rintro i e t ⟨v,A,N,D,L,rfl,rfl,hL,hLl,hLr⟩ hi
   have h0:=List.getElem?_eq_getElem hi
   have hbm:=hsz _ (List.getElem_mem hi)
   generalize bs[i]=b at h0 hbm
   have g1:∀ k,aiad (.st 4) (lst (.st 4) (bs.map Bnd.av)) (.i k (i:Int))=some (.ep b.av.cells 0):=fun k=>lst_iad rfl (by rw[List.getElem?_map,h0];rfl)
   rw[Bnd.cells_eq] at g1
   have g3:decide ((i:Int)<(bs.length:Int))=true:=by simp;omega
   have g5:=@wrap_one i (by omega)
   obtain⟨hul,hu⟩:=X_Uses b hbm
   have hlow:=hL.low
   have hNN:N0≤N:=hL.2.2.1
   have hold:Old N0 A A0:=hL.2.1
   obtain⟨us,hus⟩:∃ us,us=usesB b:=⟨_,rfl⟩
   rw[←hus] at hu hul
   obtain⟨ll,hll⟩:∃ ll:List Ob,ll=[.cells [.s b.name,lst (.st 2) (b.cls.map Clause.av),.i .i64 b.l,.i .i64 b.c]]:=⟨_,rfl⟩
   simp only[go_sem,reduceCtorEq,↓reduceIte,nA,nB,nC,nD,nE,iA,iB,iC,iD,iE,iF,g1,g3,hu,hlow,hN.low,List.length_map,strs_len,lst_low]
   refine W.step (W.range (n:=us.length) (L:=l7_1) (Q:=fun q=>∃ r:List Int,∃ vr A2 N2 ex,q=(.exit 4,[(3,vn),(6,v),(9,vr),(27,lst (.st 4) (bs.map Bnd.av)),(28,.i .i64 (bs.length:Int)),(29,.i .i64 (i:Int))]++ex,wa (Am.ex s ll) A2 N2)∧Loc A N A2 N2 .one vr (ints r)∧r.length≤us.length∧(∀ x∈r,0≤x∧x<(bs.length:Int))∧∀ u∈us,u∈bs.map Bnd.name→∃ j:Nat,(j:Int)∈r∧(bs.map Bnd.name)[j]?=some u) rfl (fun k e z=>∃ r:List Int,∃ vr A2 N2,e=[(3,vn),(6,v),(9,vr),(27,lst (.st 4) (bs.map Bnd.av)),(28,.i .i64 (bs.length:Int)),(29,.i .i64 (i:Int)),(34,lst .one (strs us)),(35,.i .i64 (us.length:Int)),(36,.i .i64 (k:Int))]∧z=wa (Am.ex s ll) A2 N2∧Loc A N A2 N2 .one vr (ints r)∧r.length≤k∧(∀ x∈r,0≤x∧x<(bs.length:Int))∧∀ u∈us.take k,u∈bs.map Bnd.name→∃ j:Nat,(j:Int)∈r∧(bs.map Bnd.name)[j]?=some u) ?_ ?_ 0 _ _ (Nat.zero_le _) ⟨[],.nsl,A,N,rfl,by rw[hll],Loc.nil,Nat.le_refl _,(fun x h=>nomatch h),(by simp)⟩) ?_
   ·rintro k e z ⟨r,vr,A2,N2,rfl,rfl,hR,hrl,hrx,hru⟩ hk
    have hk0:=List.getElem?_eq_getElem hk
    have htk:us.take (k+1)=us.take k++[us[k]]:=List.take_succ_eq_append_getElem hk
    generalize us[k]=u at hk0 htk
    have q1:∀ kd,aiad .one (lst .one (strs us)) (.i kd (k:Int))=some (.ep (AV.s u).cells 0):=fun kd=>lst_iad rfl (by unfold strs;rw[List.getElem?_map,hk0];rfl)
    have q3:decide ((k:Int)<(us.length:Int))=true:=by simp;omega
    have q5:=@wrap_one k (by omega)
    have hgn2:Gr A2 N2 .one vn (strs (bs.map Bnd.name)) dn:=hgn.mono fun a ha=>by
     have h1:=hgn.lt ha
     have h2:=hR.old a (by omega)
     obtain⟨_,_,_,_,h3,_⟩:=hR
     exact⟨h2.trans (hold a h1),by omega⟩
    have hrlow:=hR.low
    simp only[go_sem,reduceCtorEq,↓reduceIte,nA,nB,nC,nD,nE,iA,iB,iC,iD,iE,iF,q1,q3,hlow,hN.low,hrlow,lst_low]
    refine W.step (Index_w (v:=vn) u _ (hgn2.rd (by decide)) (by rw[List.length_map];omega)) ?_
    rintro _ ⟨r0,rfl,hr0⟩
    rcases hr0 with ⟨rfl,hno⟩|⟨j,rfl,hj⟩
    ·simp only[go_sem,reduceCtorEq,↓reduceIte,nA,nB,nC,nD,nE,iA,iB,iC,iD,iE,iF,q5,hlow,hN.low,hrlow,lst_low]
     refine⟨r,vr,A2,N2,rfl,rfl,hR,by omega,hrx,fun w hw hwn=>?_⟩
     rw[htk,List.mem_append,List.mem_singleton] at hw
     rcases hw with hw|rfl
     ·exact hru w hw hwn
     ·exact absurd hwn hno
    ·have hjl:=(List.getElem?_eq_some_iff.1 hj).1
     rw[List.length_map] at hjl
     have hge:decide ((j:Int)≥0)=true:=by simp
     obtain⟨v',A',N',k1,k2⟩:=hR.push (y:=.i .i64 (j:Int)) (cy:=[.i .i64 (j:Int)]) rfl (ele_one rfl) (by simp;unfold most;omega)
     simp only[go_sem,reduceCtorEq,↓reduceIte,nA,nB,nC,nD,nE,iA,iB,iC,iD,iE,iF,q5,hge,hlow,hN.low,hrlow,lst_low,k1,k2.low]
     refine⟨r++[(j:Int)],v',A',N',rfl,rfl,by unfold ints;rw[List.map_append];exact k2,by simp;omega,fun x hx=>?_,fun w hw hwn=>?_⟩
     ·rcases List.mem_append.1 hx with hx|hx
      ·exact hrx x hx
      ·rw[List.mem_singleton.1 hx];omega
     ·rw[htk,List.mem_append,List.mem_singleton] at hw
      rcases hw with hw|rfl
      ·obtain⟨j',h1,h2⟩:=hru w hw hwn
       exact⟨j',List.mem_append_left _ h1,h2⟩
      ·exact⟨j,by simp,hj⟩
   ·rintro e z ⟨r,vr,A2,N2,rfl,rfl,hR,hrl,hrx,hru⟩
    have q3:decide ((us.length:Int)<(us.length:Int))=false:=by simp
    simp only[go_sem,reduceCtorEq,↓reduceIte,nA,nB,nC,nD,nE,iA,iB,iC,iD,iE,iF,q3,hlow,hN.low,hR.low,lst_low]
    rw[List.take_length] at hru
    exact⟨r,vr,A2,N2,_,rfl,hR,hrl,hrx,hru⟩
   ·rintro _ ⟨r,vr,A2,N2,ex,rfl,hR,hrl,hrx,hru⟩
    obtain⟨dr,f1,f2,f3,f4,f5⟩:=id hR
    have hone:=f1.one
    have hele:Ele .one (lst .one (ints r)):=ele_one (lst_scal (finL_map fun _ _=>rfl))
    obtain⟨v',A',N',D',p1,p2,p3,p4,p5,-⟩:=hL.push (A1:=A2) (N1:=N2) (c:=[vr]) (x:=lst .one (ints r)) f3 f4 (by rw[lst_cells];exact f1.fz fun h=>f5 h) (fun a ha=>⟨f2 a (toList_lt ha),f1.lt (toList_lt ha)⟩) (by simp[lowL_cons,lowL_nil,hR.low]) rfl hele (by rw[List.length_map];unfold most;omega)
    rw[hll]
    simp only[go_sem,reduceCtorEq,↓reduceIte,nA,nB,nC,nD,nE,iA,iB,iC,iD,iE,iF,g5,hlow,hN.low,hR.low,lst_low,hone,p1,p2.low]
    refine⟨v',A',N',D',L++[r],rfl,rfl,by rw[List.map_append];exact p2,by simp;omega,fun k b' l hb hl'=>?_⟩
    by_cases hk:k<L.length
    ·rw[List.getElem?_append_left hk] at hl'
     exact hLr k b' l hb hl'
    ·have hke:k=L.length:=by have:=(List.getElem?_eq_some_iff.1 hl').1;simp at this;omega
     rw[hke,List.getElem?_append_right (Nat.le_refl _),Nat.sub_self] at hl'
     injection hl' with hl'
     subst hl'
     rw[hke,hLl,h0] at hb
     injection hb with hb
     subst hb
     exact⟨by omega,hrx,by rw[←hus];exact hru⟩
  ·rintro e t ⟨v,A,N,D,L,rfl,rfl,hL,hLl,hLr⟩
   have g3:decide ((bs.length:Int)<(bs.length:Int))=false:=by simp
   simp only[go_sem,reduceCtorEq,↓reduceIte,nA,nB,nC,nD,nE,iA,iB,iC,iD,iE,iF,g3,hL.low,hN.low,List.length_map]
   exact⟨v,A,N,D,_,L,rfl,hL,hLl,hLr⟩
  ·rintro _ ⟨v,A,N,D,ex,L,rfl,hL,hLl,hLr⟩
   have k1:∀ u,frz 20000 v (wa u A N)=some (uav L,wa u (clr A D) N):=fun u=>(hL.fz (by omega)).use 19997 u N
   obtain⟨hr1,hr2⟩:=rows_get hLl hLr hsz
   obtain⟨gr,m,h1,h2,h3⟩:=Groups_w (by omega) hr1 hr2 (wa s (clr A D) N)
   have h3e:=h3.eq
   simp only[go_sem,reduceCtorEq,↓reduceIte,nA,nB,nC,nD,nE,iA,iB,iC,iD,iE,iF,hL.low,hN.low,k1,h3e]
   have hfu:∀ (G:List (List Int)) u,frz 20000 (uav G) u=some (uav G,u):=fun G u=>lst_frz
   simp only[go_sem,reduceCtorEq,↓reduceIte,nA,nB,nC,nD,nE,iA,iB,iC,iD,iE,iF,hfu,uav_low]
   have hold:Old s.nxt (clr A D) s.arr:=clr_old (fun a ha=>(hL.2.1 a (by omega)).trans (hon a ha)) fun a ha=>by have:=(hL.2.2.2.1 a ha).1;omega
   rw[back_wa hold (by unfold uav;exact lst_alow)]
   exact⟨L,_,rfl,hLl,hLr,gr,m,h1,h2,rfl⟩
end Go.Am
namespace Go.Am
open Go
open Tarjan (usesOf frOf)
theorem groups_law {bs:List Bnd} {L G:List (List Int)} (hl:L.length=bs.length) (hsz:∀ b∈bs,b.sz≤900000) (hr:∀ (i:Nat) b l,bs[i]?=some b→L[i]?=some l→RowOf bs b l) (hG:GrOf L G) :
  (∀ l∈G,∀ k∈l,0≤k∧k<(bs.length:Int))∧G.flatten.length=bs.length∧(∀ (i:Nat) l (k:Nat) b,G[i]?=some l→(k:Int)∈l→bs[k]?=some b→∀ u∈usesB b,u∈bs.map Bnd.name→∃ l'∈G.take (i+1),∃ j:Nat,(j:Int)∈l'∧(bs.map Bnd.name)[j]?=some u)∧G.length≤bs.length:=by
 obtain⟨hr1,hr2⟩:=rows_get hl hr hsz
 obtain⟨gr,m,h1,h2,rfl⟩:=hG
 rw[hl] at h1 h2 hr2 ⊢
 obtain⟨o1,o2,o3,o4⟩:=Tarjan.order_ok hr2 h1 h2 m (Nat.le_refl _)
 have oall:=Tarjan.order_all hr2 h1 h2
 have htot:=Tarjan.total_all gr (Tarjan.order (usesOf L) gr bs.length m) o2 bs.length fun k a b=>oall _ (h1 k a b).1 (h1 k a b).2.1
 refine⟨fun l hl' k hk=>?_,?_,fun i l k b hi hk hb u hu hun=>?_,by rw[List.length_map,o1];exact groups_le (fun k a b=>⟨(h1 k a b).1,(h1 k a b).2.1⟩) h2⟩
 ·obtain⟨g,_,rfl⟩:=List.mem_map.1 hl'
  exact ((Tarjan.mem_members gr _ g k).1 hk).1
 ·rw[List.length_flatten,List.map_map]
  exact htot
 ·rw[List.getElem?_map] at hi
  cases hg:(Tarjan.order (usesOf L) gr bs.length m)[i]? with
  | none=>rw[hg] at hi;cases hi
  | some g =>
   rw[hg] at hi
   injection hi with hi
   subst hi
   obtain⟨⟨k0,kn⟩,hkg⟩:=(Tarjan.mem_members gr _ g k).1 hk
   have hkl:k<L.length:=by omega
   obtain⟨-,-,r3⟩:=hr k b L[k] hb (List.getElem?_eq_getElem hkl)
   obtain⟨j,hj1,hj2⟩:=r3 u hu hun
   have hju:(j:Int)∈usesOf L k:=by
    unfold usesOf
    rw[List.getD_eq_getElem?_getD,Int.toNat_natCast,List.getElem?_eq_getElem hkl]
    exact hj1
   have:=o4 i g hg k k0 kn hkg j hju
   refine⟨Tarjan.members gr bs.length (gr j),?_,j,?_,hj2⟩
   ·rw[←List.map_take]
    exact List.mem_map.2 ⟨gr j,this,rfl⟩
   ·exact (Tarjan.mem_members gr _ _ j).2 ⟨hr2 k j hju,rfl⟩
theorem TopOrder_w (hpar:∀ s,C F1 X1 6 [] s=some (.b true,s)) (src:Str) (s:St):W (C F1 X1 3 [.s src] s) (· = (.b true,s)):=by
 obtain⟨P,e,l,c,hP,hPs,hPb⟩:=X_Program src
 obtain⟨e2,l2,c2,hC⟩:=X_Check P hPs
 have hflt:∀ e l c,flt e l c=.agg [.i .i64 e,.i .i64 l,.i .i64 c]:=fun _ _ _=>rfl
 have hfin:∀ P:Prog,∀ n,P.av.low n=true:=fun P n=>by simp only[Prog.av,low_agg,lowL_cons,lowL_nil,lst_low,Bool.and_true]
 rw[w_call (f:=3) rfl]
 rw[hflt] at hP
 simp only[go_sem,reduceCtorEq,↓reduceIte,nA,nB,nC,nD,nE,iA,iB,iC,iD,iE,iF,hP,hflt,hfin]
 refine W.ifc (fun d1=>?_) (fun d1=>?_)
 ·simp only[go_sem,reduceCtorEq,↓reduceIte,nA,nB,nC,nD,nE,iA,iB,iC,iD,iE,iF,d1,hpar,hfin]
 ·simp only[go_sem,reduceCtorEq,↓reduceIte,nA,nB,nC,nD,nE,iA,iB,iC,iD,iE,iF,d1,hC,hflt,hfin,hpar]
  refine W.ifc (fun d2=>?_) (fun d2=>?_)
  ·simp only[go_sem,reduceCtorEq,↓reduceIte,nA,nB,nC,nD,nE,iA,iB,iC,iD,iE,iF,d2,hpar,hfin]
  ·obtain⟨ll,hll⟩:∃ ll:List Ob,ll=[.cells [lst (.st 5) (P.datas.map Data.av),lst (.st 5) (P.fixes.map FixT.av),lst (.st 4) (P.binds.map Bnd.av)],.cells [.i .i64 e,.i .i64 l,.i .i64 c]]:=⟨_,rfl⟩
   have hbz:∀ b∈P.binds,b.sz≤900000:=fun b hb=>by
    have:=sum_mem (f:=Bnd.sz) hb
    unfold Prog.sz at hPs
    omega
   simp only[go_sem,reduceCtorEq,↓reduceIte,nA,nB,nC,nD,nE,iA,iB,iC,iD,iE,iF,d2]
   refine W.step (Binds_w P.binds hPb hbz _) ?_
   rintro _ ⟨L,G,rfl,hLl,hLr,hGr⟩
   obtain⟨ga,gb,gc,gd⟩:=groups_law hLl hbz hLr hGr
   obtain⟨nms,hnms⟩:∃ nms,nms=P.binds.map Bnd.name:=⟨_,rfl⟩
   have hnl:nms.length=P.binds.length:=by rw[hnms,List.length_map]
   have hNames:=fun s=>(Names_w P.binds (by omega) s).eq
   rw[←hnms] at gc hNames
   obtain⟨nm,hnm⟩:∃ nm:Int→Str,nm=fun x=>nms.getD x.toNat []:=⟨_,rfl⟩
   have hnmg:∀ k:Nat,k<nms.length→nms[k]?=some (nm k):=fun k hk=>by
    rw[hnm];simp[List.getD_eq_getElem?_getD,List.getElem?_eq_getElem hk]
   simp only[go_sem,reduceCtorEq,↓reduceIte,nA,nB,nC,nD,nE,iA,iB,iC,iD,iE,iF,hNames,uav_low,lst_low]
   rw[←hll]
   have hal:∀ A,Rd A .one (lst .one (strs nms)) (strs nms):=fun A=>Rd.lst fun x hx=>by
    obtain⟨y,_,rfl⟩:=List.mem_map.1 hx;exact ele_one rfl
   have hpre:∀ i,((G.take i).flatten).length≤P.binds.length:=fun i=>by
    rw[←gb,List.length_flatten,List.length_flatten]
    have h1:=List.take_append_drop i (G.map List.length)
    rw[List.map_take,←h1,List.sum_append,h1]
    exact Nat.le_add_right _ _
   refine W.step (W.range (n:=G.length) (L:=l3_3) (Q:=fun q=>∃ A N ex,q=(.exit 0,[(3,.ref (cnt s) 0),(5,uav G),(6,lst .one (strs nms))]++ex,wa (Am.ex s ll) A N)∧get ex 8=some (.i .i64 (nms.length:Int))∧Old s.nxt A s.arr) rfl (fun i e t=>∃ v A N,e=[(3,.ref (cnt s) 0),(5,uav G),(6,lst .one (strs nms)),(7,v),(8,.i .i64 ((G.take i).flatten.length:Int)),(9,.i .i64 (i:Int))]∧t=wa (Am.ex s ll) A N∧Loc s.arr s.nxt A N .one v (strs ((G.take i).flatten.map nm))) ?_ ?_ 0 _ _ (Nat.zero_le _) ⟨.nsl,s.arr,s.nxt,rfl,rfl,Loc.nil⟩) ?_
   ·rintro i e t ⟨v,A,N,rfl,rfl,hL⟩ hi
    have hGi:=List.getElem?_eq_getElem hi
    have htk:G.take (i+1)=G.take i++[G[i]]:=List.take_succ_eq_append_getElem hi
    have hgm:=ga _ (List.getElem_mem hi)
    have hgi:usesOf G (i:Int)=G[i]:=by simp[usesOf,List.getD_eq_getElem?_getD,hGi]
    have hpi:=hpre (i+1)
    generalize G[i]=g at hGi htk hgm hgi
    have g1:=@uses_iad G i hi
    rw[hgi] at g1
    have g3:decide ((i:Int)<(G.length:Int))=true:=by simp;omega
    have g5:=@wrap_one i (by omega)
    have hfl:(G.take (i+1)).flatten=(G.take i).flatten++g:=by rw[htk,List.flatten_append];simp
    rw[hfl,List.length_append] at hpi
    simp only[go_sem,reduceCtorEq,↓reduceIte,nA,nB,nC,nD,nE,iA,iB,iC,iD,iE,iF,g3,g1,uav_len,uav_low,lst_low,hL.low]
    refine W.step (W.range (n:=g.length) (L:=l3_0) (Q:=fun q=>∃ v A N ex,q=(.exit 2,[(3,.ref (cnt s) 0),(5,uav G),(6,lst .one (strs nms)),(7,v),(8,.i .i64 (((G.take i).flatten.length+g.length:Nat):Int)),(9,.i .i64 (i:Int))]++ex,wa (Am.ex s ll) A N)∧Loc s.arr s.nxt A N .one v (strs ((G.take i).flatten.map nm++g.map nm))) rfl (fun k e t=>∃ v A N,e=[(3,.ref (cnt s) 0),(5,uav G),(6,lst .one (strs nms)),(7,v),(8,.i .i64 (((G.take i).flatten.length+k:Nat):Int)),(9,.i .i64 (i:Int)),(10,.i .i64 (k:Int))]∧t=wa (Am.ex s ll) A N∧Loc s.arr s.nxt A N .one v (strs ((G.take i).flatten.map nm++(g.take k).map nm))) ?_ ?_ 0 _ _ (Nat.zero_le _) ⟨v,A,N,rfl,rfl,by simpa using hL⟩) ?_
    ·rintro k e t ⟨v,A,N,rfl,rfl,hL⟩ hk
     have q1:=row_iad hk
     have hkt:g.take (k+1)=g.take k++[g[k]]:=List.take_succ_eq_append_getElem hk
     obtain⟨hx0,hxn⟩:=hgm _ (List.getElem_mem hk)
     generalize g[k]=x at q1 hkt hx0 hxn
     obtain⟨xn,rfl⟩:=Int.eq_ofNat_of_zero_le hx0
     have q3:decide ((k:Int)<(g.length:Int))=true:=by simp;omega
     have q5:=@wrap_one k (by omega)
     have q6:=@wrap_one ((G.take i).flatten.length+k) (by omega)
     have q7:decide ((xn:Int)<0)=false:=decide_eq_false (by omega)
     have q8:decide ((xn:Int)≥((strs nms).length:Int))=false:=by rw[strs_len];simp;omega
     have q9:∀ kd,aiad .one (lst .one (strs nms)) (.i kd (xn:Int))=some (.ep (AV.s (nm xn)).cells 0):=fun kd=>lst_iad rfl (by unfold strs;rw[List.getElem?_map,hnmg xn (by omega)];first|done|rfl)
     obtain⟨v',A',N',k1,k2⟩:=hL.push (y:=.s (nm xn)) (cy:=[.s (nm xn)]) rfl (ele_one rfl) (by rw[strs_len,List.length_append,List.length_map,List.length_map,List.length_take];unfold most;omega)
     have hhl:=hL.low
     simp only[go_sem,reduceCtorEq,↓reduceIte,nA,nB,nC,nD,nE,iA,iB,iC,iD,iE,iF,g1,q1,q3,q5,q6,q7,q8,q9,k1,row_len,uav_low,lst_low,hhl,k2.low]
     refine⟨v',A',N',rfl,rfl,?_⟩
     rw[hkt,List.map_append,←List.append_assoc]
     exact strs_push▸k2
    ·rintro e t ⟨v,A,N,rfl,rfl,hL⟩
     have q3:decide ((g.length:Int)<(g.length:Int))=false:=by simp
     simp only[go_sem,reduceCtorEq,↓reduceIte,nA,nB,nC,nD,nE,iA,iB,iC,iD,iE,iF,g1,q3,row_len,uav_low,lst_low,hL.low]
     rw[List.take_length] at hL
     exact⟨v,A,N,_,rfl,hL⟩
    ·rintro _ ⟨v,A,N,ex,rfl,hL⟩
     have hhl:=hL.low
     simp only[go_sem,reduceCtorEq,↓reduceIte,nA,nB,nC,nD,nE,iA,iB,iC,iD,iE,iF,uav_low,lst_low,hhl]
     refine W.step (W.range (n:=g.length) (L:=l3_2) (Q:=fun q=>∃ ex,q=(.exit 4,[(3,.ref (cnt s) 0),(5,uav G),(6,lst .one (strs nms)),(7,v),(8,.i .i64 (((G.take i).flatten.length+g.length:Nat):Int)),(9,.i .i64 (i:Int))]++ex,wa (Am.ex s ll) A N)) rfl (fun k e t=>e=[(3,.ref (cnt s) 0),(5,uav G),(6,lst .one (strs nms)),(7,v),(8,.i .i64 (((G.take i).flatten.length+g.length:Nat):Int)),(9,.i .i64 (i:Int)),(11,.i .i64 (k:Int))]∧t=wa (Am.ex s ll) A N) ?_ ?_ 0 _ _ (Nat.zero_le _) ⟨rfl,rfl⟩) ?_
     ·rintro k e t ⟨rfl,rfl⟩ hk
      have q1:=row_iad hk
      obtain⟨hx0,hxn⟩:=hgm _ (List.getElem_mem hk)
      have hxm:=List.getElem_mem hk
      generalize g[k]=x at q1 hx0 hxn hxm
      obtain⟨xn,rfl⟩:=Int.eq_ofNat_of_zero_le hx0
      have hxl:xn<P.binds.length:=by omega
      have hb0:=List.getElem?_eq_getElem hxl
      have hbm:=hbz _ (List.getElem_mem hxl)
      generalize P.binds[xn]=b at hb0 hbm
      obtain⟨hul,hu⟩:=X_Uses b hbm
      have hseen:=gc i g xn b hGi hxm hb0
      generalize usesB b=us at hul hu hseen
      have q3:decide ((k:Int)<(g.length:Int))=true:=by simp;omega
      have q5:=@wrap_one k (by omega)
      have q9:∀ kd,aiad (.st 4) (lst (.st 4) (P.binds.map Bnd.av)) (.i kd (xn:Int))=some (.ep b.av.cells 0):=fun kd=>lst_iad rfl (by rw[List.getElem?_map,hb0];rfl)
      rw[Bnd.cells_eq] at q9
      rw[hll]
      simp only[go_sem,reduceCtorEq,↓reduceIte,nA,nB,nC,nD,nE,iA,iB,iC,iD,iE,iF,g1,q1,q3,q9,hu,row_len,uav_low,lst_low,hhl]
      rw[←hll]
      refine W.step (W.range (n:=us.length) (L:=l3_1) (Q:=fun q=>∃ ex,q=(.exit 6,[(3,.ref (cnt s) 0),(5,uav G),(6,lst .one (strs nms)),(7,v),(8,.i .i64 (((G.take i).flatten.length+g.length:Nat):Int)),(9,.i .i64 (i:Int)),(11,.i .i64 (k:Int))]++ex,wa (Am.ex s ll) A N)) rfl (fun j e t=>e=[(3,.ref (cnt s) 0),(5,uav G),(6,lst .one (strs nms)),(7,v),(8,.i .i64 (((G.take i).flatten.length+g.length:Nat):Int)),(9,.i .i64 (i:Int)),(11,.i .i64 (k:Int)),(12,lst .one (strs us)),(13,.i .i64 (j:Int))]∧t=wa (Am.ex s ll) A N) ?_ ?_ 0 _ _ (Nat.zero_le _) ⟨rfl,rfl⟩) ?_
      ·rintro j e t ⟨rfl,rfl⟩ hj
       have hj0:=List.getElem?_eq_getElem hj
       have hjs:=hseen _ (List.getElem_mem hj)
       generalize us[j]=w at hj0 hjs
       have r1:∀ kd,aiad .one (lst .one (strs us)) (.i kd (j:Int))=some (.ep (AV.s w).cells 0):=fun kd=>lst_iad rfl (by unfold strs;rw[List.getElem?_map,hj0];rfl)
       have r3:decide ((j:Int)<((strs us).length:Int))=true:=by rw[strs_len];simp;omega
       have r5:=@wrap_one j (by omega)
       have ha1:=(Has_w w (wa (Am.ex s ll) A N) (hal _) (by omega)).eq
       have ha2:=(Has_w w (wa (Am.ex s ll) A N) (hL.rd (by decide)) (by rw[List.length_append,List.length_map,List.length_map];omega)).eq
       simp only[go_sem,reduceCtorEq,↓reduceIte,nA,nB,nC,nD,nE,iA,iB,iC,iD,iE,iF,r1,r3,ha1,uav_low,lst_low,hhl]
       refine W.ifc (fun d3=>?_) (fun d3=>?_)
       ·have h3:w∈nms:=by simpa using d3
        have h4:decide (w∈(G.take i).flatten.map nm++g.map nm)=true:=by
         obtain⟨l',hl',j',hj1,hj2⟩:=hjs h3
         have h5:(j':Int)∈(G.take (i+1)).flatten:=List.mem_flatten.2 ⟨l',hl',hj1⟩
         have h6:w=nm j':=by
          have:=hnmg j' (List.getElem?_eq_some_iff.1 hj2).1
          rw[hj2] at this
          injection this
         rw[decide_eq_true_eq,←List.map_append,←hfl,h6]
         exact List.mem_map.2 ⟨_,h5,rfl⟩
        simp only[go_sem,reduceCtorEq,↓reduceIte,nA,nB,nC,nD,nE,iA,iB,iC,iD,iE,iF,d3,r1,r5,ha2,h4,uav_low,lst_low,hhl]
       ·simp only[go_sem,reduceCtorEq,↓reduceIte,nA,nB,nC,nD,nE,iA,iB,iC,iD,iE,iF,d3,r5,uav_low,lst_low,hhl]
      ·rintro e t ⟨rfl,rfl⟩
       have r3:decide ((us.length:Int)<((strs us).length:Int))=false:=by rw[strs_len];simp
       simp only[go_sem,reduceCtorEq,↓reduceIte,nA,nB,nC,nD,nE,iA,iB,iC,iD,iE,iF,r3,uav_low,lst_low,hhl]
       exact⟨_,rfl⟩
      ·rintro _ ⟨ex,rfl⟩
       simp only[go_sem,reduceCtorEq,↓reduceIte,nA,nB,nC,nD,nE,iA,iB,iC,iD,iE,iF,q5,uav_low,lst_low,hhl]
     ·rintro e t ⟨rfl,rfl⟩
      have q3:decide ((g.length:Int)<(g.length:Int))=false:=by simp
      simp only[go_sem,reduceCtorEq,↓reduceIte,nA,nB,nC,nD,nE,iA,iB,iC,iD,iE,iF,g1,q3,row_len,uav_low,lst_low,hhl]
      exact⟨_,rfl⟩
     ·rintro _ ⟨ex,rfl⟩
      simp only[go_sem,reduceCtorEq,↓reduceIte,nA,nB,nC,nD,nE,iA,iB,iC,iD,iE,iF,g5,uav_low,lst_low,hhl]
      refine⟨v,A,N,?_,rfl,?_⟩
      ·rw[hfl,List.length_append]
      ·rw[hfl,List.map_append];exact hL
   ·rintro e t ⟨v,A,N,rfl,rfl,hL⟩
    have g3:decide ((G.length:Int)<(G.length:Int))=false:=by simp
    simp only[go_sem,reduceCtorEq,↓reduceIte,nA,nB,nC,nD,nE,iA,iB,iC,iD,iE,iF,g3,uav_len,uav_low,lst_low,hL.low]
    refine⟨A,N,_,rfl,?_,hL.old⟩
    rw[List.take_length,gb,hnl];rfl
   ·rintro _ ⟨A,N,ex,rfl,hx8,hold⟩
    have hne:((nms.length:Int)==((strs nms).length:Int))=true:=by rw[strs_len];simp
    simp only[go_sem,reduceCtorEq,↓reduceIte,nA,nB,nC,nD,nE,iA,iB,iC,iD,iE,iF,hx8,hne,hpar]
    exact congrArg (Prod.mk _) (back_wa hold rfl)
end Go.Am
namespace Go.Am
open Go
def eleq:El→El→Bool
 | .one,.one=>true
 | .st a,.st b=>a==b
 | _,_=>false
theorem eleq_iff {a b:El}:eleq a b=true↔a=b:=by
 cases a<;>cases b<;>simp[eleq]
mutual
def aveq:AV→AV→Bool
 | .un,y=>match y with|.un=>true|_=>false
 | .b x,y=>match y with|.b z=>x==z|_=>false
 | .i k n,y=>match y with|.i k' m=>decide (k=k')&&n==m|_=>false
 | .s l,y=>match y with|.s l'=>l==l'|_=>false
 | .nsl,y=>match y with|.nsl=>true|_=>false
 | .np,y=>match y with|.np=>true|_=>false
 | .nf,y=>match y with|.nf=>true|_=>false
 | .nm,y=>match y with|.nm=>true|_=>false
 | .sl el xs,y=>match y with|.sl el' ys=>eleq el el'&&aveqL xs ys|_=>false
 | .os a el n,y=>match y with|.os a' el' n'=>a==a'&&eleq el el'&&n==n'|_=>false
 | .ref r o,y=>match y with|.ref r' o'=>r==r'&&o==o'|_=>false
 | .aref r o,y=>match y with|.aref r' o'=>r==r'&&o==o'|_=>false
 | .ep cs o,y=>match y with|.ep cs' o'=>aveqL cs cs'&&o==o'|_=>false
 | .clo f cs,y=>match y with|.clo f' cs'=>f==f'&&aveqL cs cs'|_=>false
 | .mp r,y=>match y with|.mp r'=>r==r'|_=>false
 | .agg cs,y=>match y with|.agg cs'=>aveqL cs cs'|_=>false
 | .tup cs,y=>match y with|.tup cs'=>aveqL cs cs'|_=>false
def aveqL:List AV→List AV→Bool
 | [],y=>match y with|[]=>true|_=>false
 | x::xs,y=>match y with|y::ys=>aveq x y&&aveqL xs ys|_=>false
end
mutual
theorem aveq_iff:∀ {x y:AV},aveq x y=true↔x=y
 | .un,y=>by cases y<;>simp[aveq]
 | .b x,y=>by cases y<;>simp[aveq]
 | .i k n,y=>by cases y<;>simp[aveq]
 | .s l,y=>by cases y<;>simp[aveq]
 | .nsl,y=>by cases y<;>simp[aveq]
 | .np,y=>by cases y<;>simp[aveq]
 | .nf,y=>by cases y<;>simp[aveq]
 | .nm,y=>by cases y<;>simp[aveq]
 | .sl el xs,y=>by cases y<;>simp[aveq,eleq_iff,aveqL_iff (x:=xs)]
 | .os a el n,y=>by cases y<;>simp[aveq,eleq_iff,and_assoc]
 | .ref r o,y=>by cases y<;>simp[aveq]
 | .aref r o,y=>by cases y<;>simp[aveq]
 | .ep cs o,y=>by cases y<;>simp[aveq,aveqL_iff (x:=cs)]
 | .clo f cs,y=>by cases y<;>simp[aveq,aveqL_iff (x:=cs)]
 | .mp r,y=>by cases y<;>simp[aveq]
 | .agg cs,y=>by cases y<;>simp[aveq,aveqL_iff (x:=cs)]
 | .tup cs,y=>by cases y<;>simp[aveq,aveqL_iff (x:=cs)]
theorem aveqL_iff:∀ {x y:List AV},aveqL x y=true↔x=y
 | [],y=>by cases y<;>simp[aveqL]
 | x::xs,y=>by cases y<;>simp[aveqL,aveq_iff (x:=x),aveqL_iff (x:=xs)]
end
def oeq {α:Type} (f:α→α→Bool):Option α→Option α→Bool
 | none,none=>true
 | some x,some y=>f x y
 | _,_=>false
theorem oeq_iff {α:Type} {f:α→α→Bool} (hf:∀ x y,f x y=true↔x=y) {x y:Option α}:oeq f x y=true↔x=y:=by
 cases x<;>cases y<;>simp[oeq,hf]
def mpeq:List (List UInt8 × AV)→List (List UInt8 × AV)→Bool
 | [],[]=>true
 | (k,v)::l,(k',v')::l'=>k==k'&&aveq v v'&&mpeq l l'
 | _,_=>false
theorem mpeq_iff:∀ {x y:List (List UInt8 × AV)},mpeq x y=true↔x=y
 | [],y=>by cases y<;>simp[mpeq]
 | (k,v)::l,y=>by
  cases y with
  | nil=>simp[mpeq]
  | cons p y=>obtain⟨k',v'⟩:=p;simp[mpeq,aveq_iff,mpeq_iff (x:=l),and_assoc]
def obeq:Ob→Ob→Bool
 | .cells a,.cells b=>aveqL a b
 | .map a,.map b=>mpeq a b
 | _,_=>false
theorem obeq_iff (x y:Ob):obeq x y=true↔x=y:=by
 cases x<;>cases y<;>simp[obeq,aveqL_iff,mpeq_iff]
def areq (x y:Option (List AV)):Bool:=oeq aveqL x y
theorem areq_iff {x y}:areq x y=true↔x=y:=oeq_iff fun _ _=>aveqL_iff
def xobs (n:Nat):List Ob→List Ob→Bool
 | [],_=>true
 | o::os,l=>(o.alow n||match l with|o'::_=>obeq o o'|[]=>false)&&xobs n os l.tail
theorem xobs_iff {n:Nat}:∀ {a b:List Ob},xobs n a b=true↔∀ (r:Nat) o,a[r]?=some o→b[r]?=some o∨o.alow n=true
 | [],b=>by simp[xobs]
 | o::os,b=>by
  unfold xobs
  rw[Bool.and_eq_true,xobs_iff (a:=os),Bool.or_eq_true]
  constructor
  ·rintro⟨h1,h2⟩ r o' hr
   cases r with
   | zero =>
    injection hr with hr
    subst hr
    rcases h1 with h1|h1
    ·exact .inr h1
    ·cases b with
     | nil=>cases h1
     | cons o2 b=>rw[(obeq_iff o o2).1 h1];exact .inl rfl
   | succ r =>
    have:=h2 r o' hr
    cases b with
    | nil=>simpa using this
    | cons o2 b=>exact this
  ·intro h
   refine⟨?_,fun r o' hr=>?_⟩
   ·rcases h 0 o rfl with h1|h1
    ·cases b with
     | nil=>cases h1
     | cons o2 b=>injection h1 with h1;exact .inr ((obeq_iff o o2).2 h1.symm)
    ·exact .inl h1
   ·have:=h (r+1) o' hr
    cases b with
    | nil=>simpa using this
    | cons o2 b=>exact this
def xarr (f g:Nat→Option (List AV)):Nat→Bool
 | 0=>true
 | n+1=>areq (f n) (g n)&&xarr f g n
theorem xarr_iff {f g}:∀ {n},xarr f g n=true↔∀ a,a<n→f a=g a
 | 0=>by simp[xarr]
 | n+1=>by
  unfold xarr
  rw[Bool.and_eq_true,xarr_iff,areq_iff]
  constructor
  ·rintro⟨h1,h2⟩ a ha
   by_cases e:a=n
   ·subst e;exact h1
   ·exact h2 a (by omega)
  ·exact fun h=>⟨h n (by omega),fun a ha=>h a (by omega)⟩
def xclean (s:St) (v:AV) (s2:St):Bool:=v.alow s.nxt&&(xobs s.nxt s2.objs s.objs&&xarr s2.arr s.arr s.nxt)
theorem xclean_iff {s v s2}:xclean s v s2=true↔Clean s v s2:=by
 unfold xclean Clean
 rw[Bool.and_eq_true,Bool.and_eq_true,xobs_iff,xarr_iff]
 exact⟨fun ⟨a,b,c⟩=>⟨c,a,b⟩,fun ⟨a,b,c⟩=>⟨b,c,a⟩⟩
def xback (s:St) (v:AV) (s2:St):St:=if xclean s v s2 then ⟨s2.objs,s.arr,s.nxt⟩ else s2
theorem xback_eq {s v s2}:xback s v s2=back s v s2:=by
 unfold xback back
 by_cases h:Clean s v s2
 ·rw[if_pos h,if_pos (xclean_iff.2 h)]
 ·rw[if_neg h,if_neg (fun e=>h (xclean_iff.1 e))]
def xstillOb (s s':St):AV→Bool
 | .ref r _=>oeq obeq (s'.objs[r]?) (s.objs[r]?)
 | .mp r=>oeq obeq (s'.objs[r]?) (s.objs[r]?)
 | .os a _ _=>areq (s'.arr a) (s.arr a)
 | _=>false
theorem xstillOb_ok {s s' v} (h:xstillOb s s' v=true):stillOb s s' v:=by
 cases v<;>first|(cases h;done)|exact (oeq_iff obeq_iff).1 h|exact areq_iff.1 h
def xstill (e:Env) (s s':St) (d:Nat) (o:AOp):Bool :=
 match o with
 | .alloc _|.box _|.box0 _|.mkm|.bsl .. | .msl .. => match get e d with|some v=>xstillOb s s' v|none=>false
 | o=>oeq aveq (lev o e s') (get e d)
theorem xstill_ok {e s s' d o} (h:xstill e s s' d o=true):still e s s' d o:=by
 have key:(match get e d with|some v=>xstillOb s s' v|none=>false)=true→∃ v,get e d=some v∧stillOb s s' v:=fun h=>by
  cases hg:get e d with
  | none=>rw[hg] at h;cases h
  | some v=>rw[hg] at h;exact⟨v,rfl,xstillOb_ok h⟩
 have key2:∀ {x y:Option AV},oeq aveq x y=true→x=y:=fun h=>(oeq_iff fun _ _=>aveq_iff).1 h
 cases o<;>first|exact key h|exact key2 h
def xstills (e:Env) (s s':St):List (Nat × Option (Nat × Bool) × AOp)→Bool
 | []=>true
 | (d,g,o)::l=>(match wanted g e with|some true=>xstill e s s' d o|_=>true)&&xstills e s s' l
theorem xstills_ok {e s s'}:∀ {l},xstills e s s' l=true→stills e s s' l
 | [],_=>trivial
 | (d,g,o)::l,h=>by
  unfold xstills at h
  rw[Bool.and_eq_true] at h
  refine⟨fun hw=>?_,xstills_ok h.2⟩
  have:=h.1
  rw[hw] at this
  exact xstill_ok this
def xrun (cal:Nat→List AV→St→Option (AV × St)) (bs:Nat):List AX→Env→St→Option (Env × St)
 | [],e,s=>some (e,s)
 | x::xs,e,s =>
  match wanted x.grd e with
  | none=>none
  | some false=>xrun cal bs xs (put e x.dst .un) s
  | some true =>
   match opv cal bs x.op e s with
   | some (r,s2)=>if xstills e s s2 x.chk then xrun cal bs xs (put e x.dst r) s2 else none
   | none=>none
theorem xrun_ok {c1 c2:Nat→List AV→St→Option (AV × St)} (hc:∀ f a s r,c1 f a s=some r→c2 f a s=some r) (bs:Nat) :
  ∀ (ops:List AX) (e:Env) (s:St) (r:Env × St),xrun c1 bs ops e s=some r→runOps c2 bs ops e s=some r
 | [],e,s,r,h=>h
 | x::xs,e,s,r,h=>by
  unfold xrun at h
  unfold runOps
  cases hw:wanted x.grd e with
  | none=>rw[hw] at h;cases h
  | some t =>
   rw[hw] at h
   cases t with
   | false=>exact xrun_ok hc bs xs _ _ _ h
   | true =>
    dsimp only at h ⊢
    cases ho:opv c1 bs x.op e s with
    | none=>rw[ho] at h;cases h
    | some q =>
     obtain⟨v,s2⟩:=q
     rw[ho] at h
     dsimp only at h
     split at h
     ·rename_i h1
      rw[opv_mono hc ho]
      dsimp only
      rw[tryIf_pos (xstills_ok h1)]
      exact xrun_ok hc bs xs _ _ _ h
     ·cases h
section
variable (F:Nat→Option AFunc)
mutual
def xexec:Nat→Nat→ACode→Env→St→Option (Ex × Env × St)
 | 0,_,_,_,_=>none
 | n+1,bs,c,e,s =>
  match c with
  | .skip=>some (.nrm,e,s)
  | .reg ks ops =>
   match xrun (xcall n) bs ops e s with
   | some (e1,s1)=>some (.nrm,(match ks with|some ks=>keep ks e1|none=>e1),s1)
   | none=>none
  | .two .. => none
  | .seq a b =>
   match xexec n bs a e s with
   | some (.nrm,e1,s1)=>xexec n bs b e1 s1
   | r=>r
  | .cond x a b =>
   match x.ev e with
   | some (.b true)=>xexec n bs a e s
   | some (.b false)=>xexec n bs b e s
   | _=>none
  | .block id a =>
   match xexec n bs a e s with
   | some (.exit i,e1,s1)=>if i=id then some (.nrm,e1,s1) else some (.exit i,e1,s1)
   | r=>r
  | .loop a =>
   match xexec n bs a e s with
   | some (.nrm,e1,s1)=>xexec n bs (.loop a) e1 s1
   | r=>r
  | .exit id=>some (.exit id,e,s)
  | .ret=>some (.ret,e,s)
  | .trn a =>
   match xexec n s.objs.length a e s with
   | some (x,e1,s1)=>if lowE s.objs.length e1 then some (x,e1,{ s1 with objs:=s1.objs.take s.objs.length }) else some (x,e1,s1)
   | none=>none
def xcall:Nat→Nat→List AV→St→Option (AV × St)
 | 0,_,_,_=>none
 | n+1,f,args,s =>
  match F f with
  | none=>none
  | some a =>
   match xexec n s.objs.length a.body (args0 0 args) s with
   | some (.nrm,e1,s1)|some (.ret,e1,s1) =>
    match results e1 s1 a.res with
    | some vs =>
     match frzIf a.fz (one vs) s1 with
     | some (v,s2)=>some (v,xback s v (cut s.objs.length v s2))
     | none=>none
    | none=>none
   | _=>none
end
end
theorem x_ok {F:Nat→Option AFunc} {X:Nat→List AV→St→Option (AV × St)}:∀ n:Nat,(∀ bs c e s r,xexec F n bs c e s=some r→exec F X n bs c e s=some r)∧∀ f a s r,xcall F n f a s=some r→call F X n f a s=some r
 | 0=>⟨fun bs c e s r h=>(by unfold xexec at h;cases h),fun f a s r h=>(by unfold xcall at h;cases h)⟩
 | n+1=>by
  obtain⟨ie,ic⟩:=x_ok (F:=F) (X:=X) n
  refine⟨fun bs c e s r h=>?_,fun f a s r h=>?_⟩
  ·cases c with
   | skip=>unfold xexec at h;unfold exec;exact h
   | exit=>unfold xexec at h;unfold exec;exact h
   | ret=>unfold xexec at h;unfold exec;exact h
   | two=>unfold xexec at h;cases h
   | reg ks ops =>
    unfold xexec at h;unfold exec
    dsimp only at h ⊢
    cases hr:xrun (xcall F n) bs ops e s with
    | none=>rw[hr] at h;cases h
    | some p=>rw[hr] at h;rw[xrun_ok ic bs ops e s p hr];exact h
   | seq a b =>
    unfold xexec at h;unfold exec
    dsimp only at h ⊢
    cases hr:xexec F n bs a e s with
    | none=>rw[hr] at h;cases h
    | some p =>
     obtain⟨x,e1,s1⟩:=p
     rw[hr] at h;rw[ie _ _ _ _ _ hr]
     cases x with
     | nrm=>exact ie _ _ _ _ _ h
     | exit=>exact h
     | ret=>exact h
   | cond x a b =>
    unfold xexec at h;unfold exec
    dsimp only at h ⊢
    cases hx:x.ev e with
    | none=>rw[hx] at h;cases h
    | some v =>
     rw[hx] at h
     cases v<;>try (cases h;done)
     rename_i t
     cases t<;>exact ie _ _ _ _ _ h
   | block id a =>
    unfold xexec at h;unfold exec
    dsimp only at h ⊢
    cases hr:xexec F n bs a e s with
    | none=>rw[hr] at h;cases h
    | some p=>rw[hr] at h;rw[ie _ _ _ _ _ hr];exact h
   | loop a =>
    unfold xexec at h;unfold exec
    dsimp only at h ⊢
    cases hr:xexec F n bs a e s with
    | none=>rw[hr] at h;cases h
    | some p =>
     obtain⟨x,e1,s1⟩:=p
     rw[hr] at h;rw[ie _ _ _ _ _ hr]
     cases x with
     | nrm=>exact ie _ _ _ _ _ h
     | exit=>exact h
     | ret=>exact h
   | trn a =>
    unfold xexec at h;unfold exec
    dsimp only at h ⊢
    cases hr:xexec F n s.objs.length a e s with
    | none=>rw[hr] at h;cases h
    | some p=>rw[hr] at h;rw[ie _ _ _ _ _ hr];exact h
  ·unfold xcall at h;unfold call
   cases hf:F f with
   | none=>rw[hf] at h;cases h
   | some a1 =>
    rw[hf] at h
    dsimp only at h ⊢
    cases hr:xexec F n s.objs.length a1.body (args0 0 a) s with
    | none=>rw[hr] at h;cases h
    | some p =>
     rw[hr] at h
     rw[ie _ _ _ _ _ hr]
     obtain⟨x,e1,s1⟩:=p
     cases x<;>(try (cases h;done))<;>(
      dsimp only at h ⊢
      cases hv:results e1 s1 a1.res with
      | none=>rw[hv] at h;cases h
      | some vs =>
       rw[hv] at h
       dsimp only at h ⊢
       cases hz:frzIf a1.fz (one vs) s1 with
       | none=>rw[hz] at h;cases h
       | some q =>
        obtain⟨v,s2⟩:=q
        rw[hz] at h
        dsimp only at h ⊢
        rw[←xback_eq]
        exact h)
theorem x_C {F X n f a s r} (h:xcall F n f a s=some r):C F X f a s=some r:=C_iff.2 ⟨n,(x_ok n).2 f a s r h⟩
end Go.Am
namespace Go.Am
open Go
def isT:Option (AV × St)→Bool
 | some (.b true,_)=>true
 | _=>false
theorem isT_ok {x:Option (AV × St)} (h:isT x=true):∃ s,x=some (.b true,s):=by
 cases x with
 | none=>cases h
 | some p =>
  obtain⟨v,s⟩:=p
  cases v<;>try (cases h;done)
  rename_i b
  cases b
  ·cases h
  ·exact⟨s,rfl⟩
theorem parted_run:isT (xcall F0 3000 6 [] S0)=true:=by kernel_rfl
theorem X_parted (s:St):C F1 X1 6 [] s=some (.b true,s):=by
 obtain⟨s2,h⟩:=isT_ok parted_run
 exact (X1_eq rfl).trans (extern_eq (x_C (X:=X0) h) rfl rfl rfl s)
theorem TopOrder_all (src:Str) (s:St):C F1 X1 3 [.s src] s=some (.b true,s):=(TopOrder_w X_parted src s).eq
end Go.Am
