/- Part 0 of a machine for Go's pure part and of walks on it. -/
import Derived.WalkMore
import Derived.Calls
import Derived.Below
open Nat renaming reduceEqDiff → nA,reduceAdd → nB,reduceLeDiff → nC,reduceLT → nD,reduceMul → nE
open Int renaming reduceBEq → iA,reduceBNe → iB,reduceLT → iC,reduceLE → iD,reduceGT → iE,reduceGE → iF
set_option maxRecDepth 100000
set_option linter.unusedSimpArgs false
set_option linter.unusedVariables false
set_option linter.unusedSectionVars false
namespace Go.Am
open Go
inductive El where
 | one
 | st (k:Nat)
def El.size:El→Nat
 | .one=>1
 | .st k=>k
inductive AV where
 | un
 | b (x:Bool)
 | i (k:IntKind) (n:Int)
 | s (l:List UInt8)
 | nsl|np|nf|nm
 | sl (el:El) (xs:List AV)
 | os (a:Nat) (el:El) (n:Nat)
 | ref (r off:Nat)
 | aref (a k:Nat)
 | ep (cs:List AV) (off:Nat)
 | clo (f:Nat) (caps:List AV)
 | mp (r:Nat)
 | agg (cs:List AV)
 | tup (vs:List AV)
instance:Inhabited AV:=⟨.un⟩
def AV.cells:AV→List AV
 | .agg cs=>cs
 | .un=>[]
 | .tup _=>[]
 | x=>[x]
mutual
def AV.low (n:Nat):AV→Bool
 | .ref r _=>r<n
 | .mp r=>r<n
 | .clo _ caps=>AV.lowL n caps
 | .agg cs=>AV.lowL n cs
 | .tup cs=>AV.lowL n cs
 | _=>true
def AV.lowL (n:Nat):List AV→Bool
 | []=>true
 | x::xs=>AV.low n x&&AV.lowL n xs
end
mutual
def AV.fin:AV→Bool
 | .b _|.i _ _|.s _|.nsl|.np|.nf|.nm=>true
 | .sl _ xs=>AV.finL xs
 | .agg cs=>AV.finL cs
 | _=>false
def AV.finL:List AV→Bool
 | []=>true
 | x::xs=>AV.fin x&&AV.finL xs
end
mutual
def AV.alow (n:Nat):AV→Bool
 | .os a _ _=>a<n
 | .aref a _=>a<n
 | .clo _ caps=>AV.alowL n caps
 | .agg cs=>AV.alowL n cs
 | .tup cs=>AV.alowL n cs
 | _=>true
def AV.alowL (n:Nat):List AV→Bool
 | []=>true
 | x::xs=>AV.alow n x&&AV.alowL n xs
end
inductive Ob where
 | cells (cs:List AV)
 | map (es:List (List UInt8 × AV))
structure St where
 objs:List Ob
 arr:Nat→Option (List AV)
 nxt:Nat
def upd (f:Nat→Option (List AV)) (a:Nat) (v:Option (List AV)):Nat→Option (List AV):=fun i=>if i=a then v else f i
abbrev Env:=List (Nat × AV)
def get:Env→Nat→Option AV
 | [],_=>none
 | (k,v)::e,i=>if k=i then some v else get e i
def put (e:Env) (d:Option Nat) (v:AV):Env :=
 match d with
 | some d=>(d,v)::e
 | none=>e
def keep (ks:List Nat) (e:Env):Env:=ks.filterMap fun k=>(get e k).map fun v=>(k,v)
inductive Arg where
 | t (i:Nat)
 | c (x:AV)
def Arg.ev (e:Env):Arg→Option AV
 | .t i=>get e i
 | .c x=>some x
def evs (e:Env):List Arg→Option (List AV)
 | []=>some []
 | x::xs =>
  match x.ev e,evs e xs with
  | some v,some vs=>some (v::vs)
  | _,_=>none
inductive AOp where
 | mv (x:Arg)
 | pick (c a b:Arg)
 | nck (x:Arg)
 | bin (op:BinOp) (x y:Arg)
 | eqs (n:Nat) (neg:Bool) (x y:Arg)
 | un (op:UnOp) (x:Arg)
 | conv (k:IntKind) (x:Arg)
 | min (x y:Arg)
 | len (str:Bool) (x:Arg)
 | mkf (f:Nat) (caps:List Arg)
 | build (zero:List AV) (parts:List (Nat × Nat × Arg))
 | fad (off:Nat) (x:Arg)
 | fld (off:Nat) (el:El) (x:Arg)
 | iad (el:El) (x i:Arg)
 | idx (x i:Arg)
 | ext (x:Arg) (i:Nat)
 | slc (str:Bool) (x:Arg) (lo hi:Option Arg)
 | load (el:El) (x:Arg)
 | look (zero:AV) (m k:Arg) (ok:Bool)
 | alloc (zero:List AV)
 | box (x:Arg)
 | box0 (x:Arg)
 | mkm
 | bsl (el:El) (zero:List AV) (len:Nat) (parts:List (Nat × Nat × Arg))
 | msl (el:El) (zero:List AV) (len cap:Arg)
 | store (n:Nat) (a x:Arg) (fz:Bool)
 | upd (m k x:Arg) (fz:Bool)
 | app (el:El) (s x:Arg) (fz:Bool)
 | call (f:Arg) (xs:List Arg) (fz:Bool)
structure AX where
 dst:Option Nat
 op:AOp
 grd:Option (Nat × Bool)
 chk:List (Nat × Option (Nat × Bool) × AOp)
inductive ACode where
 | skip
 | reg (ks:Option (List Nat)) (ops:List AX)
 | seq (a b:ACode)
 | cond (c:Arg) (a b:ACode)
 | block (id:Nat) (a:ACode)
 | loop (a:ACode)
 | exit (id:Nat)
 | ret
 | trn (a:ACode)
 | two (ks:Option (List Nat)) (x y:List AX)
def most:Nat:=1000000
def El.get (el:El) (cs:List AV) (off:Nat):Option AV :=
 match el with
 | .one=>cs[off]?
 | .st k=>if off+k≤cs.length then some (.agg ((cs.drop off).take k)) else none
def splice (cs:List AV) (off:Nat) (vs:List AV):List AV:=cs.take off++vs++cs.drop (off+vs.length)
def abin (op:BinOp):AV→AV→Option AV
 | .i k a,.i k' b =>
  if k=k' then
   match op with
   | .add=>some (.i k (k.wrap (a+b)))
   | .sub=>some (.i k (k.wrap (a - b)))
   | .mul=>some (.i k (k.wrap (a*b)))
   | .eql=>some (.b (a==b))
   | .neq=>some (.b (a != b))
   | .lss=>some (.b (a<b))
   | .leq=>some (.b (a≤b))
   | .gtr=>some (.b (a>b))
   | .geq=>some (.b (a≥b))
   | _=>none
  else none
 | .s a,.s b =>
  match op with
  | .eql=>some (.b (a==b))
  | .neq=>some (.b (!(a==b)))
  | .add=>if a.length+b.length≤most then some (.s (a++b)) else none
  | _=>none
 | _,_=>none
def aeqs:List AV→List AV→Option Bool
 | [],[]=>some true
 | .i k a::xs,.i k' b::ys=>if k=k' then (if a==b then aeqs xs ys else some false) else none
 | _,_=>none
def allInts:List AV→Bool
 | []=>true
 | .i .i64 _::xs=>allInts xs
 | _=>false
def aslice:Bool→AV→Option AV→Option AV→Option AV
 | true,.s l,lo,hi =>
  match (match lo with|none=>some (0:Int)|some (.i _ a)=>some a|_=>none),(match hi with|none=>some (l.length:Int)|some (.i _ a)=>some a|_=>none) with
  | some a,some h=>if 0≤a∧a≤h∧h≤l.length then some (.s ((l.take h.toNat).drop a.toNat)) else none
  | _,_=>none
 | false,.os a el n,none,some (.i _ h)=>if 0≤h∧h≤n then some (.os a el h.toNat) else none
 | false,.sl el xs,none,some (.i _ h)=>if 0≤h∧h≤xs.length then some (.sl el (xs.take h.toNat)) else none
 | false,.nsl,none,some (.i _ h)=>if h=0 then some .nsl else none
 | _,_,_,_=>none
def fills (cs:List AV):List (Nat × Nat × AV)→Option (List AV)
 | []=>some cs
 | (off,n,x)::ps=>if x.cells.length=n∧0<n∧off+n≤cs.length then fills (splice cs off x.cells) ps else none
def evp (e:Env):List (Nat × Nat × Arg)→Option (List (Nat × Nat × AV))
 | []=>some []
 | (o,n,x)::ps =>
  match x.ev e,evp e ps with
  | some v,some vs=>some ((o,n,v)::vs)
  | _,_=>none
def reps (zero:List AV):Nat→List AV
 | 0=>[]
 | n+1=>zero++reps zero n
def apick:AV→AV→AV→Option AV
 | .b t,x,y=>some (if t then x else y)
 | _,_,_=>none
def anck:AV→Option AV
 | .ref r o=>some (.ref r o)
 | .aref r o=>some (.aref r o)
 | .ep r o=>some (.ep r o)
 | .clo f cs=>some (.clo f cs)
 | _=>none
def aeq (n:Nat) (neg:Bool):AV→AV→Option AV
 | .agg a,.agg b=>if a.length=n∧allInts a=true∧allInts b=true∧n≠0 then (aeqs a b).map fun t=>.b (if neg then !t else t) else none
 | .ref _ _,.np=>if n=0 then some (.b neg) else none
 | .np,.np=>if n=0 then some (.b (!neg)) else none
 | _,_=>none
def aun:UnOp→AV→Option AV
 | .not,.b t=>some (.b !t)
 | .neg,.i k n=>some (.i k (k.wrap (0 - n)))
 | _,_=>none
def aconv (k:IntKind):AV→Option AV
 | .i _ n=>some (.i k (k.wrap n))
 | _=>none
def amin:AV→AV→Option AV
 | .i k a,.i _ b=>some (.i k (if b<a then b else a))
 | _,_=>none
def alen:Bool→AV→Option AV
 | true,.s l=>some (.i .i64 l.length)
 | false,.sl _ xs=>some (.i .i64 xs.length)
 | false,.os _ _ n=>some (.i .i64 n)
 | false,.nsl=>some (.i .i64 0)
 | _,_=>none
def afad (off:Nat):AV→Option AV
 | .ref r o=>some (.ref r (o+off))
 | .aref a o=>some (.aref a (o+off))
 | .ep cs o=>some (.ep cs (o+off))
 | _=>none
def afld (off:Nat) (el:El):AV→Option AV
 | .agg cs=>el.get cs off
 | _=>none
def aiad (el:El):AV→AV→Option AV
 | .sl el' xs,.i _ n=>if 0≤n∧el'.size=el.size then (xs[n.toNat]?).map fun y=>.ep y.cells 0 else none
 | .os a el' l,.i _ n=>if 0≤n∧n<l∧el'.size=el.size then some (.aref a (n.toNat*el.size)) else none
 | _,_=>none
def aidx:AV→AV→Option AV
 | .s l,.i _ n=>if 0≤n then (l[n.toNat]?).map fun c=>.i .u8 c.toNat else none
 | _,_=>none
def aext (i:Nat):AV→Option AV
 | .tup vs=>vs[i]?
 | _=>none
def evo (e:Env):Option Arg→Option (Option AV)
 | none=>some none
 | some x=>(x.ev e).map some
def pev (o:AOp) (e:Env):Option AV :=
 match o with
 | .mv x=>x.ev e
 | .pick c a b=>(c.ev e).bind fun c=>(a.ev e).bind fun a=>(b.ev e).bind fun b=>apick c a b
 | .nck x=>(x.ev e).bind anck
 | .bin op x y=>(x.ev e).bind fun a=>(y.ev e).bind fun b=>abin op a b
 | .eqs n neg x y=>(x.ev e).bind fun a=>(y.ev e).bind fun b=>aeq n neg a b
 | .un op x=>(x.ev e).bind fun a=>aun op a
 | .conv k x=>(x.ev e).bind fun a=>aconv k a
 | .min x y=>(x.ev e).bind fun a=>(y.ev e).bind fun b=>amin a b
 | .len str x=>(x.ev e).bind fun a=>alen str a
 | .mkf f caps=>(evs e caps).bind fun vs=>some (.clo f vs)
 | .build zero parts=>(evp e parts).bind fun ps=>(fills zero ps).bind fun cs=>some (.agg cs)
 | .fad off x=>(x.ev e).bind fun a=>afad off a
 | .fld off el x=>(x.ev e).bind fun a=>afld off el a
 | .iad el x i=>(x.ev e).bind fun a=>(i.ev e).bind fun b=>aiad el a b
 | .idx x i=>(x.ev e).bind fun a=>(i.ev e).bind fun b=>aidx a b
 | .ext x i=>(x.ev e).bind fun a=>aext i a
 | .slc str x lo hi=>(x.ev e).bind fun a=>(evo e lo).bind fun l=>(evo e hi).bind fun h=>aslice str a l h
 | _=>none
def findE (k:List UInt8):List (List UInt8 × AV)→Option AV
 | []=>none
 | (j,v)::es=>if k=j then some v else findE k es
def setE (k:List UInt8) (x:AV):List (List UInt8 × AV)→List (List UInt8 × AV)
 | []=>[(k,x)]
 | (j,v)::es=>if k=j then (k,x)::es else (j,v)::setE k x es
def aload (s:St) (el:El):AV→Option AV
 | .ref r o =>
  match s.objs[r]? with
  | some (.cells cs)=>el.get cs o
  | _=>none
 | .aref a o=>(s.arr a).bind fun cs=>el.get cs o
 | .ep cs o=>el.get cs o
 | _=>none
def alook (s:St) (zero:AV) (ok:Bool):AV→AV→Option AV
 | .mp r,.s k =>
  match s.objs[r]? with
  | some (.map es) =>
   match findE k es with
   | some v=>some (if ok then .tup [v,.b true] else v)
   | none=>some (if ok then .tup [zero,.b false] else zero)
  | _=>none
 | .nm,.s _=>some (if ok then .tup [zero,.b false] else zero)
 | _,_=>none
def lev (o:AOp) (e:Env) (s:St):Option AV :=
 match o with
 | .load el x=>(x.ev e).bind fun a=>aload s el a
 | .look zero m k ok=>(m.ev e).bind fun a=>(k.ev e).bind fun b=>alook s zero ok a b
 | _=>pev o e
def newOb (s:St) (o:Ob):St:={ s with objs:=s.objs++[o] }
def newAr (s:St) (cs:List AV):St:={ s with arr:=upd s.arr s.nxt (some cs),nxt:=s.nxt+1 }
def aslot (s:St) (el:El) (n:Nat) (cs:List AV):Option (AV × St):=if AV.lowL 0 cs then some (.os s.nxt el n,newAr s cs) else none
def abox (s:St) (v:AV):Option (AV × St):=if AV.lowL 0 v.cells then some (.ref s.objs.length 0,newOb s (.cells v.cells)) else none
def amsl (s:St) (el:El) (zero:List AV):AV→AV→Option (AV × St)
 | .i _ n,.i _ m=>if 0≤n∧n≤m∧m≤most then aslot s el n.toNat (reps zero m.toNat) else none
 | _,_=>none
def aev (o:AOp) (e:Env) (s:St):Option (AV × St) :=
 match o with
 | .alloc zero=>some (.ref s.objs.length 0,newOb s (.cells zero))
 | .box x=>(x.ev e).bind fun v=>some (.ref s.objs.length 0,newOb s (.cells v.cells))
 | .box0 x=>(x.ev e).bind fun v=>abox s v
 | .mkm=>some (.mp s.objs.length,newOb s (.map []))
 | .bsl el zero len parts=>(evp e parts).bind fun ps=>(fills (reps zero len) ps).bind fun cs=>aslot s el len cs
 | .msl el zero l c=>(l.ev e).bind fun a=>(c.ev e).bind fun b=>amsl s el zero a b
 | _=>(lev o e s).bind fun v=>some (v,s)
def chunk (el:El):Nat→List AV→Option (List AV)
 | 0,_=>some []
 | k+1,cs =>
  match el.get cs 0 with
  | some x=>if AV.fin x then (chunk el k (cs.drop el.size)).map fun ys=>x::ys else none
  | none=>none
def frzAll (f:AV→St→Option (AV × St)):List AV→St→Option (List AV × St)
 | [],s=>some ([],s)
 | x::xs,s =>
  match f x s with
  | some (y,s1) =>
   match frzAll f xs s1 with
   | some (ys,s2)=>some (y::ys,s2)
   | none=>none
  | none=>none
def frz:Nat→AV→St→Option (AV × St)
 | 0,_,_=>none
 | n+1,.os a el k,s =>
  match s.arr a with
  | some cs =>
   match frzAll (frz n) (cs.take (k*el.size)) { s with arr:=upd s.arr a none } with
   | some (c,s1) =>
    match chunk el k c with
    | some ys=>some (.sl el ys,s1)
    | none=>none
   | none=>none
  | none=>none
 | n+1,.agg cs,s=>(frzAll (frz n) cs s).map fun p=>(.agg p.1,p.2)
 | n+1,.tup cs,s=>(frzAll (frz n) cs s).map fun p=>(.tup p.1,p.2)
 | _+1,x,s=>some (x,s)
def frzIf (fz:Bool) (x:AV) (s:St):Option (AV × St):=if fz then frz 20000 x s else some (x,s)
def frzAllIf (fz:Bool) (xs:List AV) (s:St):Option (List AV × St):=if fz then frzAll (frz 20000) xs s else some (xs,s)
def flat (el:El) (x:AV) (s:St):Option (Nat × List AV) :=
 match x with
 | .nsl=>some (0,[])
 | .sl el' xs=>if el'.size=el.size then some (xs.length,xs.flatMap AV.cells) else none
 | .os a el' n =>
  match s.arr a with
  | some cs=>if n*el.size≤cs.length∧el'.size=el.size then some (n,cs.take (n*el.size)) else none
  | none=>none
 | _=>none
def astore (bs n:Nat) (s:St) (v:AV):AV→Option (AV × St)
 | .ref r o =>
  match s.objs[r]? with
  | some (.cells cs)=>if v.cells.length=n∧0<n∧o+n≤cs.length∧(r<bs→v.low 0=true) then some (.un,{ s with objs:=s.objs.set r (.cells (splice cs o v.cells)) }) else none
  | _=>none
 | .aref a o =>
  match s.arr a with
  | some cs=>if v.cells.length=n∧0<n∧o+n≤cs.length∧v.low 0=true then some (.un,{ s with arr:=Am.upd s.arr a (some (splice cs o v.cells)) }) else none
  | none=>none
 | _=>none
def aupd (s:St) (v:AV):AV→AV→Option (AV × St)
 | .mp r,.s k =>
  match s.objs[r]? with
  | some (.map es)=>if v.fin then some (.un,{ s with objs:=s.objs.set r (.map (setE k v es)) }) else none
  | _=>none
 | _,_=>none
def agrow (s:St) (el:El) (k:Nat) (cy:List AV):AV→Option (AV × St)
 | .nsl=>if k=0 then some (.nsl,s) else if k≤most∧AV.lowL 0 cy=true then some (.os s.nxt el k,newAr s cy) else none
 | .os a el' n =>
  match s.arr a with
  | some cs=>if el'.size=el.size∧n*el.size≤cs.length∧n+k≤most∧AV.lowL 0 cy=true then some (.os s.nxt el (n+k),newAr { s with arr:=Am.upd s.arr a none } (cs.take (n*el.size)++cy)) else none
  | none=>none
 | .sl el' xs=>if k=0 then some (.sl el' xs,s) else none
 | _=>none
def eev (bs:Nat) (o:AOp) (e:Env) (s:St):Option (AV × St) :=
 match o with
 | .store n a x fz=>(a.ev e).bind fun p=>(x.ev e).bind fun v=>(frzIf fz v s).bind fun q=>astore bs n q.2 q.1 p
 | .upd m k x fz=>(m.ev e).bind fun a=>(k.ev e).bind fun b=>(x.ev e).bind fun v=>(frzIf fz v s).bind fun q=>aupd q.2 q.1 a b
 | .app el x y fz=>(x.ev e).bind fun a=>(y.ev e).bind fun b=>(flat el b s).bind fun p=>(frzAllIf fz p.2 s).bind fun q=>agrow q.2 el p.1 q.1 a
 | _=>aev o e s
def bq:Bool→Bool→Bool
 | true,b=>b
 | false,b=>!b
def wanted (g:Option (Nat × Bool)) (e:Env):Option Bool :=
 match g with
 | none=>some true
 | some (t,want) =>
  match get e t with
  | some (.b x)=>some (bq x want)
  | some .un=>some false
  | _=>none
def stillOb (s s':St):AV→Prop
 | .ref r _=>s'.objs[r]?=s.objs[r]?
 | .mp r=>s'.objs[r]?=s.objs[r]?
 | .os a _ _=>s'.arr a=s.arr a
 | _=>False
def still (e:Env) (s s':St) (d:Nat) (o:AOp):Prop :=
 match o with
 | .alloc _|.box _|.box0 _|.mkm|.bsl .. | .msl .. => ∃ v,get e d=some v∧stillOb s s' v
 | o=>lev o e s'=get e d
def stills (e:Env) (s s':St):List (Nat × Option (Nat × Bool) × AOp)→Prop
 | []=>True
 | (d,g,o)::l=>(wanted g e=some true→still e s s' d o)∧stills e s s' l
noncomputable def tryIf {α:Type} (p:Prop) (x:Option α):Option α:=open Classical in if p then x else none
def acall (cal:Nat→List AV→St→Option (AV × St)) (vs:List AV) (s:St):AV→Option (AV × St)
 | .clo g caps=>cal g (vs++caps) s
 | _=>none
def opv (cal:Nat→List AV→St→Option (AV × St)) (bs:Nat) (o:AOp) (e:Env) (s:St):Option (AV × St) :=
 match o with
 | .call f as fz=>(f.ev e).bind fun f=>(evs e as).bind fun vs=>(frzAllIf fz vs s).bind fun q=>acall cal q.1 q.2 f
 | o=>eev bs o e s
noncomputable def runOps (cal:Nat→List AV→St→Option (AV × St)) (bs:Nat):List AX→Env→St→Option (Env × St)
 | [],e,s=>some (e,s)
 | x::xs,e,s =>
  match wanted x.grd e with
  | none=>none
  | some false=>runOps cal bs xs (put e x.dst .un) s
  | some true =>
   match opv cal bs x.op e s with
   | some (r,s2)=>tryIf (stills e s s2 x.chk) (runOps cal bs xs (put e x.dst r) s2)
   | none=>none
inductive Ex where
 | nrm
 | exit (id:Nat)
 | ret
structure AFunc where
 body:ACode
 res:List (Arg × Option El)
 fz:Bool
def args0 (k:Nat):List AV→Env
 | []=>[]
 | x::xs=>(k,x)::args0 (k+1) xs
def results (e:Env) (s:St):List (Arg × Option El)→Option (List AV)
 | []=>some []
 | (x,none)::rs =>
  match x.ev e,results e s rs with
  | some v,some vs=>some (v::vs)
  | _,_=>none
 | (x,some el)::rs =>
  match lev (.load el x) e s,results e s rs with
  | some v,some vs=>some (v::vs)
  | _,_=>none
def one:List AV→AV
 | [x]=>x
 | xs=>.tup xs
def cut (n:Nat) (x:AV) (s:St):St:=if x.low n then { s with objs:=s.objs.take n } else s
def Ob.alow (n:Nat):Ob→Bool
 | .cells cs=>AV.alowL n cs
 | .map _=>true
def Clean (s:St) (v:AV) (s2:St):Prop:=(∀ a,a<s.nxt→s2.arr a=s.arr a)∧v.alow s.nxt=true∧∀ (r:Nat) (o:Ob),s2.objs[r]?=some o→s.objs[r]?=some o∨o.alow s.nxt=true
noncomputable def back (s:St) (v:AV) (s2:St):St:=open Classical in if Clean s v s2 then ⟨s2.objs,s.arr,s.nxt⟩ else s2
def lowE (n:Nat):Env→Bool
 | []=>true
 | (_,v)::e=>v.low n&&lowE n e
section
variable (F:Nat→Option AFunc) (X:Nat→List AV→St→Option (AV × St))
mutual
noncomputable def exec:Nat→Nat→ACode→Env→St→Option (Ex × Env × St)
 | 0,_,_,_,_=>none
 | n+1,bs,c,e,s =>
  match c with
  | .skip=>some (.nrm,e,s)
  | .reg ks ops =>
   match runOps (call n) bs ops e s with
   | some (e1,s1)=>some (.nrm,(match ks with|some ks=>keep ks e1|none=>e1),s1)
   | none=>none
  | .two ks x y =>
   match runOps (call n) bs x e s with
   | some (e1,s1)=>tryIf (runOps (call n) bs y e s=some (e1,s1)) (some (.nrm,(match ks with|some ks=>keep ks e1|none=>e1),s1))
   | none=>none
  | .seq a b =>
   match exec n bs a e s with
   | some (.nrm,e1,s1)=>exec n bs b e1 s1
   | r=>r
  | .cond x a b =>
   match x.ev e with
   | some (.b true)=>exec n bs a e s
   | some (.b false)=>exec n bs b e s
   | _=>none
  | .block id a =>
   match exec n bs a e s with
   | some (.exit i,e1,s1)=>if i=id then some (.nrm,e1,s1) else some (.exit i,e1,s1)
   | r=>r
  | .loop a =>
   match exec n bs a e s with
   | some (.nrm,e1,s1)=>exec n bs (.loop a) e1 s1
   | r=>r
  | .exit id=>some (.exit id,e,s)
  | .ret=>some (.ret,e,s)
  | .trn a =>
   match exec n s.objs.length a e s with
   | some (x,e1,s1)=>if lowE s.objs.length e1 then some (x,e1,{ s1 with objs:=s1.objs.take s.objs.length }) else some (x,e1,s1)
   | none=>none
noncomputable def call:Nat→Nat→List AV→St→Option (AV × St)
 | 0,_,_,_=>none
 | n+1,f,args,s =>
  match F f with
  | none=>X f args s
  | some a =>
   match exec n s.objs.length a.body (args0 0 args) s with
   | some (.nrm,e1,s1)|some (.ret,e1,s1) =>
    match results e1 s1 a.res with
    | some vs =>
     match frzIf a.fz (one vs) s1 with
     | some (v,s2)=>some (v,back s v (cut s.objs.length v s2))
     | none=>none
    | none=>none
   | _=>none
end
end
end Go.Am
namespace Go.Am
open Go
theorem tryIf_pos {α:Type} {p:Prop} (h:p) (x:Option α):tryIf p x=x:=by unfold tryIf;rw[if_pos h]
theorem tryIf_some {α:Type} {p:Prop} {x:Option α} {y:α} (h:tryIf p x=some y):p∧x=some y:=by
 unfold tryIf at h
 split at h
 ·exact⟨‹_›,h⟩
 ·cases h
theorem opv_mono {c1 c2:Nat→List AV→St→Option (AV × St)} (hc:∀ f a s r,c1 f a s=some r→c2 f a s=some r) {bs o e s r} (h:opv c1 bs o e s=some r):opv c2 bs o e s=some r:=by
 cases o<;>try exact h
 rename_i f as fz
 unfold opv at h ⊢
 dsimp only at h ⊢
 cases hf:f.ev e with
 | none=>rw[hf] at h;cases h
 | some fv =>
  rw[hf] at h
  cases ha:evs e as with
  | none=>rw[ha] at h;cases h
  | some vs =>
   rw[ha] at h
   simp only[Option.bind_some] at h ⊢
   cases hz:frzAllIf fz vs s with
   | none=>rw[hz] at h;cases h
   | some q =>
    rw[hz] at h
    simp only[Option.bind_some] at h ⊢
    cases fv<;>first|exact hc _ _ _ _ h|cases h
theorem runOps_mono {c1 c2:Nat→List AV→St→Option (AV × St)} (hc:∀ f a s r,c1 f a s=some r→c2 f a s=some r) (bs:Nat) :
  ∀ (ops:List AX) (e:Env) (s:St) (r:Env × St),runOps c1 bs ops e s=some r→runOps c2 bs ops e s=some r
 | [],e,s,r,h=>h
 | x::xs,e,s,r,h=>by
  unfold runOps at h ⊢
  cases hw:wanted x.grd e with
  | none=>rw[hw] at h;cases h
  | some t =>
   rw[hw] at h
   cases t with
   | false=>exact runOps_mono hc bs xs _ _ _ h
   | true =>
    dsimp only at h ⊢
    cases ho:opv c1 bs x.op e s with
    | none=>rw[ho] at h;cases h
    | some q =>
     obtain⟨v,s2⟩:=q
     rw[ho] at h
     obtain⟨h1,h2⟩:=tryIf_some h
     rw[opv_mono hc ho]
     dsimp only
     rw[tryIf_pos h1]
     exact runOps_mono hc bs xs _ _ _ h2
variable {F:Nat→Option AFunc} {X:Nat→List AV→St→Option (AV × St)}
theorem mono1:∀ n:Nat,(∀ bs c e s r,exec F X n bs c e s=some r→exec F X (n+1) bs c e s=some r)∧∀ f a s r,call F X n f a s=some r→call F X (n+1) f a s=some r
 | 0=>⟨fun bs c e s r h=>(by unfold exec at h;cases h),fun f a s r h=>(by unfold call at h;cases h)⟩
 | n+1=>by
  obtain⟨ie,ic⟩:=mono1 n
  refine⟨fun bs c e s r h=>?_,fun f a s r h=>?_⟩
  ·cases c with
   | skip=>unfold exec at h ⊢;exact h
   | exit=>unfold exec at h ⊢;exact h
   | ret=>unfold exec at h ⊢;exact h
   | reg ks ops =>
    unfold exec at h ⊢
    dsimp only at h ⊢
    cases hr:runOps (call F X n) bs ops e s with
    | none=>rw[hr] at h;cases h
    | some p=>rw[hr] at h;rw[runOps_mono ic bs ops e s p hr];exact h
   | two ks x y =>
    unfold exec at h ⊢
    dsimp only at h ⊢
    cases hr:runOps (call F X n) bs x e s with
    | none=>rw[hr] at h;cases h
    | some p =>
     obtain⟨e1,s1⟩:=p
     rw[hr] at h
     rw[runOps_mono ic bs x e s _ hr]
     dsimp only at h ⊢
     obtain⟨h1,h2⟩:=tryIf_some h
     rw[tryIf_pos (runOps_mono ic bs y e s _ h1)]
     exact h2
   | seq a b =>
    unfold exec at h ⊢
    dsimp only at h ⊢
    cases hr:exec F X n bs a e s with
    | none=>rw[hr] at h;cases h
    | some p =>
     obtain⟨x,e1,s1⟩:=p
     rw[hr] at h;rw[ie _ _ _ _ _ hr]
     cases x with
     | nrm=>exact ie _ _ _ _ _ h
     | exit=>exact h
     | ret=>exact h
   | cond x a b =>
    unfold exec at h ⊢
    dsimp only at h ⊢
    cases hx:x.ev e with
    | none=>rw[hx] at h;cases h
    | some v =>
     rw[hx] at h
     cases v<;>try (cases h;done)
     rename_i t
     cases t<;>exact ie _ _ _ _ _ h
   | block id a =>
    unfold exec at h ⊢
    dsimp only at h ⊢
    cases hr:exec F X n bs a e s with
    | none=>rw[hr] at h;cases h
    | some p=>rw[hr] at h;rw[ie _ _ _ _ _ hr];exact h
   | loop a =>
    unfold exec at h ⊢
    dsimp only at h ⊢
    cases hr:exec F X n bs a e s with
    | none=>rw[hr] at h;cases h
    | some p =>
     obtain⟨x,e1,s1⟩:=p
     rw[hr] at h;rw[ie _ _ _ _ _ hr]
     cases x with
     | nrm=>exact ie _ _ _ _ _ h
     | exit=>exact h
     | ret=>exact h
   | trn a =>
    unfold exec at h ⊢
    dsimp only at h ⊢
    cases hr:exec F X n s.objs.length a e s with
    | none=>rw[hr] at h;cases h
    | some p=>rw[hr] at h;rw[ie _ _ _ _ _ hr];exact h
  ·unfold call at h ⊢
   cases hf:F f with
   | none=>rw[hf] at h;exact h
   | some a1 =>
    rw[hf] at h
    dsimp only at h ⊢
    cases hr:exec F X n s.objs.length a1.body (args0 0 a) s with
    | none=>rw[hr] at h;cases h
    | some p=>rw[hr] at h;rw[ie _ _ _ _ _ hr];exact h
theorem exec_le {n m:Nat} (h:n≤m) {bs c e s r} (hr:exec F X n bs c e s=some r):exec F X m bs c e s=some r:=by
 induction h with
 | refl=>exact hr
 | step _ ih=>exact (mono1 _).1 _ _ _ _ _ ih
theorem call_le {n m:Nat} (h:n≤m) {f a s r} (hr:call F X n f a s=some r):call F X m f a s=some r:=by
 induction h with
 | refl=>exact hr
 | step _ ih=>exact (mono1 _).2 _ _ _ _ ih
end Go.Am
namespace Go.Am
open Go
section
variable (F:Nat→Option AFunc) (X:Nat→List AV→St→Option (AV × St))
open Classical in
noncomputable def C (f:Nat) (a:List AV) (s:St):Option (AV × St):=if h:∃ r n,call F X n f a s=some r then some (Classical.choose h) else none
open Classical in
noncomputable def E (bs:Nat) (c:ACode) (e:Env) (s:St):Option (Ex × Env × St):=if h:∃ r n,exec F X n bs c e s=some r then some (Classical.choose h) else none
variable {F X}
theorem C_iff {f a s r}:C F X f a s=some r↔∃ n,call F X n f a s=some r:=by
 unfold C
 constructor
 ·intro h
  split at h
  ·rename_i hx
   injection h with h
   subst h
   exact Classical.choose_spec hx
  ·cases h
 ·rintro⟨n,hn⟩
  have hx:∃ r n,call F X n f a s=some r:=⟨r,n,hn⟩
  rw[dif_pos hx]
  obtain⟨m,hm⟩:=Classical.choose_spec hx
  have h1:=call_le (Nat.le_max_left n m) hn
  have h2:=call_le (Nat.le_max_right n m) hm
  rw[h1] at h2
  exact h2.symm
theorem E_iff {bs c e s r}:E F X bs c e s=some r↔∃ n,exec F X n bs c e s=some r:=by
 unfold E
 constructor
 ·intro h
  split at h
  ·rename_i hx
   injection h with h
   subst h
   exact Classical.choose_spec hx
  ·cases h
 ·rintro⟨n,hn⟩
  have hx:∃ r n,exec F X n bs c e s=some r:=⟨r,n,hn⟩
  rw[dif_pos hx]
  obtain⟨m,hm⟩:=Classical.choose_spec hx
  have h1:=exec_le (Nat.le_max_left n m) hn
  have h2:=exec_le (Nat.le_max_right n m) hm
  rw[h1] at h2
  exact h2.symm
theorem E_skip {bs e s}:E F X bs .skip e s=some (.nrm,e,s):=E_iff.2 ⟨1,by unfold exec;rfl⟩
theorem E_ret {bs e s}:E F X bs .ret e s=some (.ret,e,s):=E_iff.2 ⟨1,by unfold exec;rfl⟩
theorem E_exit {bs i e s}:E F X bs (.exit i) e s=some (.exit i,e,s):=E_iff.2 ⟨1,by unfold exec;rfl⟩
theorem opt_ext {α:Type} {x y:Option α} (h1:∀ r,x=some r→y=some r) (h2:∀ r,y=some r→x=some r):x=y:=by
 cases x with
 | none =>
  cases y with
  | none=>rfl
  | some b=>exact h2 b rfl
 | some a=>exact (h1 a rfl).symm
theorem opv_call {bs o e s r} (h:opv (C F X) bs o e s=some r):∃ n,opv (call F X n) bs o e s=some r:=by
 cases o<;>try exact⟨0,h⟩
 rename_i f as fz
 unfold opv at h ⊢
 dsimp only at h ⊢
 cases hf:f.ev e with
 | none=>rw[hf] at h;cases h
 | some fv =>
  rw[hf] at h
  cases ha:evs e as with
  | none=>rw[ha] at h;cases h
  | some vs =>
   rw[ha] at h
   simp only[Option.bind_some] at h ⊢
   cases hz:frzAllIf fz vs s with
   | none=>rw[hz] at h;cases h
   | some q =>
    rw[hz] at h
    simp only[Option.bind_some] at h ⊢
    cases fv<;>first|exact C_iff.1 h|cases h
theorem runOps_call {bs}:∀ {ops:List AX} {e:Env} {s:St} {r},runOps (C F X) bs ops e s=some r→∃ n,runOps (call F X n) bs ops e s=some r
 | [],e,s,r,h=>⟨0,h⟩
 | x::xs,e,s,r,h=>by
  unfold runOps at h
  cases hw:wanted x.grd e with
  | none=>rw[hw] at h;cases h
  | some t =>
   rw[hw] at h
   cases t with
   | false =>
    obtain⟨n,hn⟩:=runOps_call h
    exact⟨n,by unfold runOps;rw[hw];exact hn⟩
   | true =>
    dsimp only at h
    cases ho:opv (C F X) bs x.op e s with
    | none=>rw[ho] at h;cases h
    | some q =>
     obtain⟨v,s2⟩:=q
     rw[ho] at h
     obtain⟨h1,h2⟩:=tryIf_some h
     obtain⟨n,hn⟩:=opv_call ho
     obtain⟨m,hm⟩:=runOps_call h2
     refine⟨max n m,?_⟩
     unfold runOps
     rw[hw]
     dsimp only
     rw[opv_mono (fun f a s r h=>call_le (Nat.le_max_left n m) h) hn]
     dsimp only
     rw[tryIf_pos h1]
     exact runOps_mono (fun f a s r h=>call_le (Nat.le_max_right n m) h) bs xs _ _ _ hm
theorem runOps_C {n bs ops e s r} (h:runOps (call F X n) bs ops e s=some r):runOps (C F X) bs ops e s=some r :=
 runOps_mono (fun f a s r h=>C_iff.2 ⟨n,h⟩) bs ops e s r h
def kp (ks:Option (List Nat)) (e:Env):Env:=match ks with|some ks=>keep ks e|none=>e
def rg (ks:Option (List Nat)):Option (Env × St)→Option (Ex × Env × St)
 | some (e,s)=>some (.nrm,kp ks e,s)
 | none=>none
theorem rg_some {ks e s}:rg ks (some (e,s))=some (.nrm,kp ks e,s):=(rfl)
theorem E_reg {bs ks ops e s}:E F X bs (.reg ks ops) e s=rg ks (runOps (C F X) bs ops e s):=by
 refine opt_ext (fun r h=>?_) (fun r h=>?_)
 ·obtain⟨n,hn⟩:=E_iff.1 h
  cases n with
  | zero=>unfold exec at hn;cases hn
  | succ n =>
   unfold exec at hn
   dsimp only at hn
   cases hr:runOps (call F X n) bs ops e s with
   | none=>rw[hr] at hn;cases hn
   | some p=>rw[hr] at hn;rw[runOps_C hr];exact hn
 ·cases hr:runOps (C F X) bs ops e s with
  | none=>rw[hr] at h;cases h
  | some p =>
   rw[hr] at h
   obtain⟨n,hn⟩:=runOps_call hr
   exact E_iff.2 ⟨n+1,by unfold exec;dsimp only;rw[hn];exact h⟩
noncomputable def twk (cal:Nat→List AV→St→Option (AV × St)) (bs:Nat) (y:List AX) (e:Env) (s:St) (ks:Option (List Nat)) (p:Env × St):Option (Ex × Env × St):=tryIf (runOps cal bs y e s=some (p.1,p.2)) (some (.nrm,kp ks p.1,p.2))
theorem E_two {bs ks x y e s}:E F X bs (.two ks x y) e s=(runOps (C F X) bs x e s).bind (twk (C F X) bs y e s ks):=by
 refine opt_ext (fun r h=>?_) (fun r h=>?_)
 ·obtain⟨n,hn⟩:=E_iff.1 h
  cases n with
  | zero=>unfold exec at hn;cases hn
  | succ n =>
   unfold exec at hn
   dsimp only at hn
   cases hr:runOps (call F X n) bs x e s with
   | none=>rw[hr] at hn;cases hn
   | some p =>
    obtain⟨e1,s1⟩:=p
    rw[hr] at hn
    rw[runOps_C hr]
    obtain⟨h1,h2⟩:=tryIf_some hn
    show tryIf _ _=_
    rw[tryIf_pos (runOps_C h1)]
    exact h2
 ·cases hr:runOps (C F X) bs x e s with
  | none=>rw[hr] at h;cases h
  | some p =>
   obtain⟨e1,s1⟩:=p
   rw[hr] at h
   obtain⟨h1,h2⟩:=tryIf_some (show tryIf _ _=some r from h)
   obtain⟨n,hn⟩:=runOps_call hr
   obtain⟨m,hm⟩:=runOps_call h1
   refine E_iff.2 ⟨max n m+1,?_⟩
   unfold exec
   dsimp only
   rw[runOps_mono (fun f a s r h=>call_le (Nat.le_max_left n m) h) bs x e s _ hn]
   dsimp only
   rw[tryIf_pos (runOps_mono (fun f a s r h=>call_le (Nat.le_max_right n m) h) bs y e s _ hm)]
   exact h2
section
variable (F X)
noncomputable def sq (bs:Nat) (b:ACode) (x:Option (Ex × Env × St)):Option (Ex × Env × St) :=
 match x with
 | some (.nrm,e,s)=>E F X bs b e s
 | r=>r
end
theorem sq_nrm {bs b e s}:sq F X bs b (some (.nrm,e,s))=E F X bs b e s:=(rfl)
theorem sq_ret {bs b e s}:sq F X bs b (some (.ret,e,s))=some (.ret,e,s):=(rfl)
theorem sq_exit {bs b i e s}:sq F X bs b (some (.exit i,e,s))=some (.exit i,e,s):=(rfl)
theorem E_seq {bs a b e s}:E F X bs (.seq a b) e s=sq F X bs b (E F X bs a e s):=by
 refine opt_ext (fun r h=>?_) (fun r h=>?_)
 ·obtain⟨n,hn⟩:=E_iff.1 h
  cases n with
  | zero=>unfold exec at hn;cases hn
  | succ n =>
   unfold exec at hn
   dsimp only at hn
   cases hr:exec F X n bs a e s with
   | none=>rw[hr] at hn;cases hn
   | some p =>
    obtain⟨x,e1,s1⟩:=p
    rw[hr] at hn
    rw[E_iff.2 ⟨n,hr⟩]
    cases x with
    | nrm=>exact E_iff.2 ⟨n,hn⟩
    | exit i=>exact hn
    | ret=>exact hn
 ·cases hr:E F X bs a e s with
  | none=>rw[hr] at h;cases h
  | some p =>
   obtain⟨x,e1,s1⟩:=p
   rw[hr] at h
   obtain⟨n,hn⟩:=E_iff.1 hr
   cases x with
   | nrm =>
    obtain⟨m,hm⟩:=E_iff.1 (show E F X bs b e1 s1=some r from h)
    exact E_iff.2 ⟨max n m+1,by unfold exec;dsimp only;rw[exec_le (Nat.le_max_left n m) hn];exact exec_le (Nat.le_max_right n m) hm⟩
   | exit i=>exact E_iff.2 ⟨n+1,by unfold exec;dsimp only;rw[hn];exact h⟩
   | ret=>exact E_iff.2 ⟨n+1,by unfold exec;dsimp only;rw[hn];exact h⟩
theorem E_loop {bs a e s}:E F X bs (.loop a) e s=sq F X bs (.loop a) (E F X bs a e s):=by
 refine opt_ext (fun r h=>?_) (fun r h=>?_)
 ·obtain⟨n,hn⟩:=E_iff.1 h
  cases n with
  | zero=>unfold exec at hn;cases hn
  | succ n =>
   unfold exec at hn
   dsimp only at hn
   cases hr:exec F X n bs a e s with
   | none=>rw[hr] at hn;cases hn
   | some p =>
    obtain⟨x,e1,s1⟩:=p
    rw[hr] at hn
    rw[E_iff.2 ⟨n,hr⟩]
    cases x with
    | nrm=>exact E_iff.2 ⟨n,hn⟩
    | exit i=>exact hn
    | ret=>exact hn
 ·cases hr:E F X bs a e s with
  | none=>rw[hr] at h;cases h
  | some p =>
   obtain⟨x,e1,s1⟩:=p
   rw[hr] at h
   obtain⟨n,hn⟩:=E_iff.1 hr
   cases x with
   | nrm =>
    obtain⟨m,hm⟩:=E_iff.1 (show E F X bs (.loop a) e1 s1=some r from h)
    exact E_iff.2 ⟨max n m+1,by unfold exec;dsimp only;rw[exec_le (Nat.le_max_left n m) hn];exact exec_le (Nat.le_max_right n m) hm⟩
   | exit i=>exact E_iff.2 ⟨n+1,by unfold exec;dsimp only;rw[hn];exact h⟩
   | ret=>exact E_iff.2 ⟨n+1,by unfold exec;dsimp only;rw[hn];exact h⟩
def cnd (c:Option AV) (x y:Option (Ex × Env × St)):Option (Ex × Env × St) :=
 match c with
 | some (.b t)=>if t then x else y
 | _=>none
theorem E_cond {bs c a b e s}:E F X bs (.cond c a b) e s=cnd (c.ev e) (E F X bs a e s) (E F X bs b e s):=by
 cases hc:c.ev e with
 | none =>
  refine opt_ext (fun r h=>?_) (fun r h=>by cases h)
  obtain⟨n,hn⟩:=E_iff.1 h
  cases n with
  | zero=>unfold exec at hn;cases hn
  | succ n=>unfold exec at hn;dsimp only at hn;rw[hc] at hn;cases hn
 | some v =>
  refine opt_ext (fun r h=>?_) (fun r h=>?_)
  ·obtain⟨n,hn⟩:=E_iff.1 h
   cases n with
   | zero=>unfold exec at hn;cases hn
   | succ n =>
    unfold exec at hn
    dsimp only at hn
    rw[hc] at hn
    cases v<;>try (cases hn;done)
    rename_i t
    cases t<;>exact E_iff.2 ⟨n,hn⟩
  ·cases v<;>try (cases h;done)
   rename_i t
   cases t
   ·obtain⟨n,hn⟩:=E_iff.1 (show E F X bs b e s=some r from h)
    exact E_iff.2 ⟨n+1,by unfold exec;dsimp only;rw[hc];exact hn⟩
   ·obtain⟨n,hn⟩:=E_iff.1 (show E F X bs a e s=some r from h)
    exact E_iff.2 ⟨n+1,by unfold exec;dsimp only;rw[hc];exact hn⟩
def bk (id:Nat):Option (Ex × Env × St)→Option (Ex × Env × St)
 | some (.exit i,e,s)=>if i=id then some (.nrm,e,s) else some (.exit i,e,s)
 | r=>r
theorem E_block {bs id a e s}:E F X bs (.block id a) e s=bk id (E F X bs a e s):=by
 refine opt_ext (fun r h=>?_) (fun r h=>?_)
 ·obtain⟨n,hn⟩:=E_iff.1 h
  cases n with
  | zero=>unfold exec at hn;cases hn
  | succ n =>
   unfold exec at hn
   dsimp only at hn
   cases hr:exec F X n bs a e s with
   | none=>rw[hr] at hn;cases hn
   | some p=>rw[hr] at hn;rw[E_iff.2 ⟨n,hr⟩];exact hn
 ·cases hr:E F X bs a e s with
  | none=>rw[hr] at h;cases h
  | some p =>
   rw[hr] at h
   obtain⟨n,hn⟩:=E_iff.1 hr
   exact E_iff.2 ⟨n+1,by unfold exec;dsimp only;rw[hn];exact h⟩
def tr (n:Nat):Option (Ex × Env × St)→Option (Ex × Env × St)
 | some (x,e,s)=>if lowE n e then some (x,e,{ s with objs:=s.objs.take n }) else some (x,e,s)
 | none=>none
theorem E_trn {bs a e s}:E F X bs (.trn a) e s=tr s.objs.length (E F X s.objs.length a e s):=by
 refine opt_ext (fun r h=>?_) (fun r h=>?_)
 ·obtain⟨n,hn⟩:=E_iff.1 h
  cases n with
  | zero=>unfold exec at hn;cases hn
  | succ n =>
   unfold exec at hn
   dsimp only at hn
   cases hr:exec F X n s.objs.length a e s with
   | none=>rw[hr] at hn;cases hn
   | some p=>rw[hr] at hn;rw[E_iff.2 ⟨n,hr⟩];exact hn
 ·cases hr:E F X s.objs.length a e s with
  | none=>rw[hr] at h;cases h
  | some p =>
   rw[hr] at h
   obtain⟨n,hn⟩:=E_iff.1 hr
   exact E_iff.2 ⟨n+1,by unfold exec;dsimp only;rw[hn];exact h⟩
noncomputable def fin1 (s0:St) (fz:Bool) (s:St):Option (List AV)→Option (AV × St)
 | some vs=>(frzIf fz (one vs) s).map fun q=>(q.1,back s0 q.1 (cut s0.objs.length q.1 q.2))
 | none=>none
noncomputable def fin (s0:St) (rs:List (Arg × Option El)) (fz:Bool):Option (Ex × Env × St)→Option (AV × St)
 | some (.nrm,e,s)=>fin1 s0 fz s (results e s rs)
 | some (.ret,e,s)=>fin1 s0 fz s (results e s rs)
 | _=>none
theorem C_eq {f a args s} (hf:F f=some a):C F X f args s=fin s a.res a.fz (E F X s.objs.length a.body (args0 0 args) s):=by
 have key:∀ (p:Option (Ex × Env × St)),(match p with
   | some (.nrm,e1,s1)|some (.ret,e1,s1) =>
    match results e1 s1 a.res with
    | some vs =>
     match frzIf a.fz (one vs) s1 with
     | some (v,s2)=>some (v,back s v (cut s.objs.length v s2))
     | none=>none
    | none=>none
   | _=>none)=fin s a.res a.fz p:=by
  intro p
  cases p with
  | none=>rfl
  | some p =>
   obtain⟨x,e1,s1⟩:=p
   cases x with
   | exit i=>rfl
   | nrm =>
    dsimp only[fin]
    cases results e1 s1 a.res with
    | none=>rfl
    | some vs =>
     dsimp only[fin1]
     cases frzIf a.fz (one vs) s1<;>rfl
   | ret =>
    dsimp only[fin]
    cases results e1 s1 a.res with
    | none=>rfl
    | some vs =>
     dsimp only[fin1]
     cases frzIf a.fz (one vs) s1<;>rfl
 refine opt_ext (fun r h=>?_) (fun r h=>?_)
 ·obtain⟨n,hn⟩:=C_iff.1 h
  cases n with
  | zero=>unfold call at hn;cases hn
  | succ n =>
   unfold call at hn
   rw[hf] at hn
   dsimp only at hn
   cases hr:exec F X n s.objs.length a.body (args0 0 args) s with
   | none=>rw[hr] at hn;cases hn
   | some p =>
    rw[E_iff.2 ⟨n,hr⟩,←key,←hr]
    exact hn
 ·cases hr:E F X s.objs.length a.body (args0 0 args) s with
  | none=>rw[hr] at h;cases h
  | some p =>
   rw[hr,←key] at h
   obtain⟨n,hn⟩:=E_iff.1 hr
   refine C_iff.2 ⟨n+1,?_⟩
   unfold call
   rw[hf]
   dsimp only
   rw[hn]
   exact h
theorem C_ext {f args s} (hf:F f=none):C F X f args s=X f args s:=by
 refine opt_ext (fun r h=>?_) (fun r h=>?_)
 ·obtain⟨n,hn⟩:=C_iff.1 h
  cases n with
  | zero=>unfold call at hn;cases hn
  | succ n=>unfold call at hn;rw[hf] at hn;exact hn
 ·exact C_iff.2 ⟨1,by unfold call;rw[hf];exact h⟩
theorem bk_nrm {id e s}:bk id (some (.nrm,e,s))=some (.nrm,e,s):=(rfl)
theorem bk_ret {id e s}:bk id (some (.ret,e,s))=some (.ret,e,s):=(rfl)
theorem bk_exit {id i e s}:bk id (some (.exit i,e,s))=if i=id then some (.nrm,e,s) else some (.exit i,e,s):=(rfl)
theorem cnd_b {t x y}:cnd (some (.b t)) x y=if t then x else y:=(rfl)
section
variable (cal:Nat→List AV→St→Option (AV × St))
noncomputable def stp (bs:Nat) (x:AX) (xs:List AX) (e:Env) (s:St):Option (AV × St)→Option (Env × St)
 | some (r,s2)=>tryIf (stills e s s2 x.chk) (runOps cal bs xs (put e x.dst r) s2)
 | none=>none
noncomputable def nx (bs:Nat) (x:AX) (xs:List AX) (e:Env) (s:St):Option Bool→Option (Env × St)
 | none=>none
 | some false=>runOps cal bs xs (put e x.dst .un) s
 | some true=>stp cal bs x xs e s (opv cal bs x.op e s)
variable {cal}
theorem runOps_nil {bs e s}:runOps cal bs [] e s=some (e,s):=(rfl)
theorem runOps_cons {bs x xs e s}:runOps cal bs (x::xs) e s=nx cal bs x xs e s (wanted x.grd e):=by
 show (match wanted x.grd e with|none=>none|some false=>_|some true=>_)=_
 cases wanted x.grd e with
 | none=>rfl
 | some t =>
  cases t with
  | false=>rfl
  | true =>
   dsimp only[nx]
   cases opv cal bs x.op e s<;>rfl
theorem nx_false {bs x xs e s}:nx cal bs x xs e s (some false)=runOps cal bs xs (put e x.dst .un) s:=(rfl)
theorem nx_true {bs x xs e s}:nx cal bs x xs e s (some true)=stp cal bs x xs e s (opv cal bs x.op e s):=(rfl)
theorem stp_some {bs d o g xs e s r s2}:stp cal bs ⟨d,o,g,[]⟩ xs e s (some (r,s2))=runOps cal bs xs (put e d r) s2:=tryIf_pos trivial _
theorem stp_chk {bs x xs e s r s2} (h:stills e s s2 x.chk):stp cal bs x xs e s (some (r,s2))=runOps cal bs xs (put e x.dst r) s2:=tryIf_pos h _
end
theorem C_lit {F X f c rs fz args s} (hf:F f=some ⟨c,rs,fz⟩):C F X f args s=fin s rs fz (E F X s.objs.length c (args0 0 args) s):=C_eq hf
theorem fin_ret {s0 rs fz e s}:fin s0 rs fz (some (.ret,e,s))=fin1 s0 fz s (results e s rs):=(rfl)
theorem fin_nrm {s0 rs fz e s}:fin s0 rs fz (some (.nrm,e,s))=fin1 s0 fz s (results e s rs):=(rfl)
theorem res_tmp {e s x rs}:results e s ((x,none)::rs)=(x.ev e).bind fun v=>(results e s rs).bind fun vs=>some (v::vs):=by
 rw[results];cases x.ev e<;>cases results e s rs<;>rfl
theorem res_cell {e s x el rs}:results e s ((x,some el)::rs)=(lev (.load el x) e s).bind fun v=>(results e s rs).bind fun vs=>some (v::vs):=by
 rw[results];cases lev (.load el x) e s<;>cases results e s rs<;>rfl
theorem res_nil {e s}:results e s []=some []:=(rfl)
theorem fin1_no {s0 s vs}:fin1 s0 false s (some vs)=some (one vs,back s0 (one vs) (cut s0.objs.length (one vs) s)):=(rfl)
theorem fin1_fz {s0 s vs}:fin1 s0 true s (some vs)=(frz 20000 (one vs) s).bind fun q=>some (q.1,back s0 q.1 (cut s0.objs.length q.1 q.2)):=by
 show Option.map _ (frzIf true (one vs) s)=_
 unfold frzIf
 rw[if_pos rfl]
 cases frz 20000 (one vs) s<;>rfl
theorem one_one {x}:one [x]=x:=(rfl)
theorem one_two {x y xs}:one (x::y::xs)=.tup (x::y::xs):=(rfl)
theorem cut_low {n x s} (h:x.low n=true):cut n x s={ s with objs:=s.objs.take n }:=by unfold cut;rw[if_pos h]
theorem back_self {s v}:back s v s=s:=by unfold back;split<;>rfl
theorem back_mk {s v o}:back s v ⟨o,s.arr,s.nxt⟩=⟨o,s.arr,s.nxt⟩:=by unfold back;split<;>rfl
theorem back_clean {s v s2} (h:Clean s v s2):back s v s2=⟨s2.objs,s.arr,s.nxt⟩:=if_pos h
theorem ob_old {B l:List Ob} {r:Nat} (h:r<B.length):(B++l)[r]?=B[r]?:=List.getElem?_append_left h
theorem ob_own {B l:List Ob} {n k:Nat} (h:B.length=n):(B++l)[n+k]?=l[k]?:=by
 subst h;rw[List.getElem?_append_right (by omega)];congr 1;omega
theorem ob_own0 {B l:List Ob} {n:Nat} (h:B.length=n):(B++l)[n]?=l[0]?:=by
 subst h;rw[List.getElem?_append_right (by omega)];congr 1;omega
theorem set_old {B l:List Ob} {r:Nat} {o:Ob} (h:r<B.length):(B++l).set r o=B.set r o++l:=List.set_append_left _ _ h
theorem set_own {B l:List Ob} {n k:Nat} {o:Ob} (h:B.length=n):(B++l).set (n+k) o=B++l.set k o:=by
 subst h;rw[List.set_append_right _ _ (by omega)];congr 2;omega
theorem set_own0 {B l:List Ob} {n:Nat} {o:Ob} (h:B.length=n):(B++l).set n o=B++l.set 0 o:=by
 subst h;rw[List.set_append_right _ _ (by omega)];congr 2;omega
theorem take_base {B l:List Ob} {n:Nat} (h:B.length=n):(B++l).take n=B:=by subst h;simp
theorem frzIf_no {x s}:frzIf false x s=some (x,s):=(rfl)
theorem frzAllIf_no {x s}:frzAllIf false x s=some (x,s):=(rfl)
theorem frzIf_yes {x s}:frzIf true x s=frz 20000 x s:=(rfl)
theorem frzAllIf_yes {x s}:frzAllIf true x s=frzAll (frz 20000) x s:=(rfl)
end
end Go.Am
namespace Go.Am
open Go
def W {α:Type} (x:Option α) (Q:α→Prop):Prop:=∃ r,x=some r∧Q r
section
variable {α β:Type} {Q:α→Prop} {R:β→Prop}
theorem W.mk {r:α} (h:Q r):W (some r) Q:=⟨r,rfl,h⟩
theorem W.bind {x:Option α} {k:α→Option β} (h:W x fun r=>W (k r) R):W (x.bind k) R:=by
 obtain⟨r,h1,h2⟩:=h;subst h1;exact h2
theorem W.mono {x:Option α} {Q':α→Prop} (h:W x Q) (hq:∀ r,Q r→Q' r):W x Q':=by
 obtain⟨r,h1,h2⟩:=h;exact⟨r,h1,hq r h2⟩
theorem W.step {x:Option α} {k:α→Option β} (h:W x Q) (hk:∀ r,Q r→W (k r) R):W (x.bind k) R:=W.bind (h.mono hk)
theorem W.eq {x:Option α} {r:α} (h:W x (· = r)):x=some r:=by obtain⟨q,h1,rfl⟩:=h;exact h1
theorem W.of {x:Option α} {r:α} (h:x=some r) (hq:Q r):W x Q:=⟨r,h,hq⟩
def ifc (c:Bool) (f g:Unit→α):α:=match c with|true=>f ()|false=>g ()
theorem ifc_t {f g:Unit→α}:ifc true f g=f ():=(rfl)
theorem ifc_f {f g:Unit→α}:ifc false f g=g ():=(rfl)
theorem ifc_not {c:Bool} {f g:Unit→α}:ifc (!c) f g=ifc c g f:=by cases c<;>rfl
theorem bind_sm {r:α} {k:α→Option β}:(some r).bind k=k r:=(rfl)
def kc {γ:Type} (k:α→Option β) (l:β→Option γ) (r:α):Option γ:=(k r).bind l
theorem kc_eq {γ:Type} {k:α→Option β} {l:β→Option γ} {r:α}:kc k l r=(k r).bind l:=(rfl)
theorem bind_as {γ:Type} {x:Option α} {k:α→Option β} {l:β→Option γ}:(x.bind k).bind l=x.bind (kc k l):=by cases x<;>rfl
def tb (f:Unit→Option α) (k:α→Option β) (u:Unit):Option β:=(f u).bind k
theorem tb_eq {f:Unit→Option α} {k:α→Option β}:tb f k ()=(f ()).bind k:=(rfl)
theorem ifc_bind {c:Bool} {f g:Unit→Option α} {k:α→Option β}:(ifc c f g).bind k=ifc c (tb f k) (tb g k):=by cases c<;>rfl
theorem W.ifc {c:Bool} {f g:Unit→Option α} (h1:c=true→W (f ()) Q) (h2:c=false→W (g ()) Q):W (ifc c f g) Q:=by
 cases c
 ·exact h2 rfl
 ·exact h1 rfl
end
section
variable {F:Nat→Option AFunc} {X:Nat→List AV→St→Option (AV × St)}
section
variable (F X)
noncomputable def sqk (bs:Nat) (b:ACode):Ex × Env × St→Option (Ex × Env × St)
 | (.nrm,e,s)=>E F X bs b e s
 | r=>some r
noncomputable def te (bs:Nat) (a:ACode) (e:Env) (s:St) (_:Unit):Option (Ex × Env × St):=E F X bs a e s
noncomputable def cdk (bs:Nat) (a b:ACode) (e:Env) (s:St) (c:AV):Option (Ex × Env × St) :=
 match c with
 | .b t=>ifc t (te F X bs a e s) (te F X bs b e s)
 | _=>none
end
theorem te_eq {bs a e s}:te F X bs a e s ()=E F X bs a e s:=(rfl)
theorem sqk_nrm {bs b e s}:sqk F X bs b (.nrm,e,s)=E F X bs b e s:=(rfl)
theorem sqk_ret {bs b e s}:sqk F X bs b (.ret,e,s)=some (.ret,e,s):=(rfl)
theorem sqk_exit {bs b i e s}:sqk F X bs b (.exit i,e,s)=some (.exit i,e,s):=(rfl)
theorem w_seq {bs a b e s}:E F X bs (.seq a b) e s=(E F X bs a e s).bind (sqk F X bs b):=by
 rw[E_seq]
 cases E F X bs a e s with
 | none=>rfl
 | some p=>obtain⟨x,e1,s1⟩:=p;cases x<;>rfl
theorem w_loop {bs a e s}:E F X bs (.loop a) e s=(E F X bs a e s).bind (sqk F X bs (.loop a)):=by
 rw[E_loop]
 cases E F X bs a e s with
 | none=>rfl
 | some p=>obtain⟨x,e1,s1⟩:=p;cases x<;>rfl
def bkk (id:Nat):Ex × Env × St→Option (Ex × Env × St)
 | (.exit i,e,s)=>if i=id then some (.nrm,e,s) else some (.exit i,e,s)
 | r=>some r
theorem bkk_nrm {id e s}:bkk id (.nrm,e,s)=some (.nrm,e,s):=(rfl)
theorem bkk_ret {id e s}:bkk id (.ret,e,s)=some (.ret,e,s):=(rfl)
theorem bkk_exit {id i e s}:bkk id (.exit i,e,s)=if i=id then some (.nrm,e,s) else some (.exit i,e,s):=(rfl)
theorem w_block {bs id a e s}:E F X bs (.block id a) e s=(E F X bs a e s).bind (bkk id):=by
 rw[E_block]
 cases E F X bs a e s with
 | none=>rfl
 | some p=>obtain⟨x,e1,s1⟩:=p;cases x<;>rfl
def trk (n:Nat):Ex × Env × St→Option (Ex × Env × St)
 | (x,e,s)=>if lowE n e then some (x,e,{ s with objs:=s.objs.take n }) else some (x,e,s)
def tk (n:Nat) (s:St):St:={ s with objs:=s.objs.take n }
theorem trk_eq {n x e s}:trk n (x,e,s)=if lowE n e then some (x,e,tk n s) else some (x,e,s):=(rfl)
theorem lowE_nil {n}:lowE n []=true:=(rfl)
theorem lowE_cons {n k v e}:lowE n ((k,v)::e)=(v.low n&&lowE n e):=(rfl)
theorem w_trn {bs a e s}:E F X bs (.trn a) e s=(E F X s.objs.length a e s).bind (trk s.objs.length):=by
 rw[E_trn]
 cases E F X s.objs.length a e s with
 | none=>rfl
 | some p=>obtain⟨x,e1,s1⟩:=p;rfl
theorem w_skip {bs e s}:E F X bs .skip e s=some (.nrm,e,s):=E_skip
theorem w_ret {bs e s}:E F X bs .ret e s=some (.ret,e,s):=E_ret
theorem w_exit {bs i e s}:E F X bs (.exit i) e s=some (.exit i,e,s):=E_exit
theorem cdk_b {bs a b e s t}:cdk F X bs a b e s (.b t)=ifc t (te F X bs a e s) (te F X bs b e s):=(rfl)
theorem w_cond {bs c a b e s}:E F X bs (.cond c a b) e s=(c.ev e).bind (cdk F X bs a b e s):=by
 rw[E_cond]
 cases c.ev e with
 | none=>rfl
 | some v =>
  cases v<;>try rfl
  rename_i t
  cases t<;>rfl
def rgk (ks:List Nat) (p:Env × St):Option (Ex × Env × St):=some (.nrm,keep ks p.1,p.2)
theorem rgk_eq {ks e s}:rgk ks (e,s)=some (.nrm,keep ks e,s):=(rfl)
theorem w_reg {bs ks ops e s}:E F X bs (.reg (some ks) ops) e s=(runOps (C F X) bs ops e s).bind (rgk ks):=by
 rw[E_reg]
 cases runOps (C F X) bs ops e s with
 | none=>rfl
 | some p=>obtain⟨e1,s1⟩:=p;rfl
def tsk (ks:List Nat) (e:Env) (s:St) (_:Unit):Option (Ex × Env × St):=some (.nrm,keep ks e,s)
theorem tsk_eq {ks e s}:tsk ks e s ()=some (.nrm,keep ks e,s):=(rfl)
section
variable {cal:Nat→List AV→St→Option (AV × St)}
section
variable (cal)
noncomputable def opk (bs:Nat) (xs:List AX) (e:Env) (d:Option Nat) (p:AV × St):Option (Env × St):=runOps cal bs xs (put e d p.1) p.2
noncomputable def tro (bs:Nat) (xs:List AX) (e:Env) (s:St) (_:Unit):Option (Env × St):=runOps cal bs xs e s
end
noncomputable def tryk {α:Type} (p:Prop) (f:Unit→Option α):Option α:=tryIf p (f ())
theorem tryk_t {α:Type} {f:Unit→Option α}:tryk True f=f ():=tryIf_pos trivial _
theorem tryk_h {α:Type} {p:Prop} {f:Unit→Option α} (h:p):tryk p f=f ():=tryIf_pos h _
theorem tryk_bind {α β:Type} {p:Prop} {f:Unit→Option α} {k:α→Option β}:(tryk p f).bind k=tryk p (tb f k):=by
 unfold tryk tryIf
 split<;>rfl
theorem W.try {α:Type} {p:Prop} {f:Unit→Option α} {Q:α→Prop} (h:p) (k:W (f ()) Q):W (tryk p f) Q:=by rw[tryk_h h];exact k
theorem twk_eq {bs y e s ks e1 s1}:twk cal bs y e s (some ks) (e1,s1)=tryk (runOps cal bs y e s=some (e1,s1)) (tsk ks e1 s1):=(rfl)
theorem opk_eq {bs xs e d v s}:opk cal bs xs e d (v,s)=runOps cal bs xs (put e d v) s:=(rfl)
theorem tro_eq {bs xs e s}:tro cal bs xs e s ()=runOps cal bs xs e s:=(rfl)
theorem w_nil {bs e s}:runOps cal bs [] e s=some (e,s):=(rfl)
theorem w_op {bs d o xs e s}:runOps cal bs (⟨d,o,none,[]⟩::xs) e s=(opv cal bs o e s).bind (opk cal bs xs e d):=by
 rw[runOps_cons]
 show stp cal bs _ xs e s (opv cal bs o e s)=_
 cases opv cal bs o e s with
 | none=>rfl
 | some p=>obtain⟨v,s2⟩:=p;exact stp_some
section
variable (cal)
noncomputable def chk (bs:Nat) (xs:List AX) (e:Env) (s:St) (d:Option Nat) (cs:List (Nat × Option (Nat × Bool) × AOp)) (p:AV × St):Option (Env × St):=tryk (stills e s p.2 cs) (tro cal bs xs (put e d p.1) p.2)
noncomputable def too (bs:Nat) (o:AOp) (xs:List AX) (e:Env) (s:St) (d:Option Nat) (cs:List (Nat × Option (Nat × Bool) × AOp)) (_:Unit):Option (Env × St):=(opv cal bs o e s).bind (chk cal bs xs e s d cs)
noncomputable def toq (bs:Nat) (o:AOp) (xs:List AX) (e:Env) (s:St) (d:Option Nat) (_:Unit):Option (Env × St):=(opv cal bs o e s).bind (opk cal bs xs e d)
noncomputable def gdk (w:Bool) (f g:Unit→Option (Env × St)) (v:AV):Option (Env × St) :=
 match v with
 | .b t=>if w then ifc t f g else ifc t g f
 | .un=>g ()
 | _=>none
end
theorem chk_eq {bs xs e s d cs v s2}:chk cal bs xs e s d cs (v,s2)=tryk (stills e s s2 cs) (tro cal bs xs (put e d v) s2):=(rfl)
theorem too_eq {bs o xs e s d cs}:too cal bs o xs e s d cs ()=(opv cal bs o e s).bind (chk cal bs xs e s d cs):=(rfl)
theorem toq_eq {bs o xs e s d}:toq cal bs o xs e s d ()=(opv cal bs o e s).bind (opk cal bs xs e d):=(rfl)
theorem w_chk {bs d o xs e s c cs}:runOps cal bs (⟨d,o,none,c::cs⟩::xs) e s=(opv cal bs o e s).bind (chk cal bs xs e s d (c::cs)):=by
 rw[runOps_cons]
 show stp cal bs _ xs e s (opv cal bs o e s)=_
 cases opv cal bs o e s with
 | none=>rfl
 | some p=>rfl
theorem gdk_t {f g t}:gdk true f g (.b t)=ifc t f g:=(rfl)
theorem gdk_f {f g t}:gdk false f g (.b t)=ifc t g f:=(rfl)
theorem gdk_un {w f g}:gdk w f g .un=g ():=(rfl)
theorem w_grd {bs d o xs e s t w}:runOps cal bs (⟨d,o,some (t,w),[]⟩::xs) e s=(get e t).bind (gdk w (toq cal bs o xs e s d) (tro cal bs xs (put e d .un) s)):=by
 rw[runOps_cons]
 unfold wanted
 dsimp only
 cases get e t with
 | none=>rfl
 | some v =>
  cases v<;>try rfl
  rename_i b
  have yes:nx cal bs ⟨d,o,some (t,w),[]⟩ xs e s (some true)=toq cal bs o xs e s d ():=by
   rw[nx_true]
   show _=(opv cal bs o e s).bind _
   cases opv cal bs o e s with
   | none=>rfl
   | some p=>obtain⟨v,s2⟩:=p;exact stp_some
  cases b<;>cases w<;>first|exact yes|rfl
theorem w_grdc {bs d o xs e s t w c cs}:runOps cal bs (⟨d,o,some (t,w),c::cs⟩::xs) e s=(get e t).bind (gdk w (too cal bs o xs e s d (c::cs)) (tro cal bs xs (put e d .un) s)):=by
 rw[runOps_cons]
 unfold wanted
 dsimp only
 cases get e t with
 | none=>rfl
 | some v =>
  cases v<;>try rfl
  rename_i b
  have yes:nx cal bs ⟨d,o,some (t,w),c::cs⟩ xs e s (some true)=too cal bs o xs e s d (c::cs) ():=by
   rw[nx_true]
   show _=(opv cal bs o e s).bind _
   cases opv cal bs o e s with
   | none=>rfl
   | some p=>obtain⟨v,s2⟩:=p;rfl
  cases b<;>cases w<;>first|exact yes|rfl
theorem w_still {e s s2 d g o l}:stills e s s2 ((d,g,o)::l)=((wanted g e=some true→still e s s2 d o)∧stills e s s2 l):=(rfl)
theorem w_stills {e s s2}:stills e s s2 []=True:=(rfl)
variable {bs:Nat} {e:Env} {s:St}
theorem o_mv {x}:opv cal bs (.mv x) e s=(x.ev e).bind fun v=>some (v,s):=(rfl)
theorem o_pick {c x y}:opv cal bs (.pick c x y) e s=((c.ev e).bind fun c=>(x.ev e).bind fun a=>(y.ev e).bind fun b=>apick c a b).bind fun v=>some (v,s):=(rfl)
theorem o_nck {x}:opv cal bs (.nck x) e s=((x.ev e).bind anck).bind fun v=>some (v,s):=(rfl)
theorem o_bin {o x y}:opv cal bs (.bin o x y) e s=((x.ev e).bind fun a=>(y.ev e).bind fun b=>abin o a b).bind fun v=>some (v,s):=(rfl)
theorem o_eqs {n g x y}:opv cal bs (.eqs n g x y) e s=((x.ev e).bind fun a=>(y.ev e).bind fun b=>aeq n g a b).bind fun v=>some (v,s):=(rfl)
theorem o_un {o x}:opv cal bs (.un o x) e s=((x.ev e).bind fun a=>aun o a).bind fun v=>some (v,s):=(rfl)
theorem o_conv {k x}:opv cal bs (.conv k x) e s=((x.ev e).bind fun a=>aconv k a).bind fun v=>some (v,s):=(rfl)
theorem o_min {x y}:opv cal bs (.min x y) e s=((x.ev e).bind fun a=>(y.ev e).bind fun b=>amin a b).bind fun v=>some (v,s):=(rfl)
theorem o_len {t x}:opv cal bs (.len t x) e s=((x.ev e).bind fun a=>alen t a).bind fun v=>some (v,s):=(rfl)
theorem o_mkf {f xs}:opv cal bs (.mkf f xs) e s=((evs e xs).bind fun vs=>some (.clo f vs)).bind fun v=>some (v,s):=(rfl)
theorem o_build {z ps}:opv cal bs (.build z ps) e s=((evp e ps).bind fun ps=>(fills z ps).bind fun cs=>some (.agg cs)).bind fun v=>some (v,s):=(rfl)
theorem o_fad {k x}:opv cal bs (.fad k x) e s=((x.ev e).bind fun a=>afad k a).bind fun v=>some (v,s):=(rfl)
theorem o_fld {k el x}:opv cal bs (.fld k el x) e s=((x.ev e).bind fun a=>afld k el a).bind fun v=>some (v,s):=(rfl)
theorem o_iad {el x y}:opv cal bs (.iad el x y) e s=((x.ev e).bind fun a=>(y.ev e).bind fun b=>aiad el a b).bind fun v=>some (v,s):=(rfl)
theorem o_idx {x y}:opv cal bs (.idx x y) e s=((x.ev e).bind fun a=>(y.ev e).bind fun b=>aidx a b).bind fun v=>some (v,s):=(rfl)
theorem o_ext {x i}:opv cal bs (.ext x i) e s=((x.ev e).bind fun a=>aext i a).bind fun v=>some (v,s):=(rfl)
theorem o_slc {t x lo hi}:opv cal bs (.slc t x lo hi) e s=((x.ev e).bind fun a=>(evo e lo).bind fun l=>(evo e hi).bind fun h=>aslice t a l h).bind fun v=>some (v,s):=(rfl)
theorem o_load {el x}:opv cal bs (.load el x) e s=((x.ev e).bind fun a=>aload s el a).bind fun v=>some (v,s):=(rfl)
theorem o_look {z m k t}:opv cal bs (.look z m k t) e s=((m.ev e).bind fun a=>(k.ev e).bind fun b=>alook s z t a b).bind fun v=>some (v,s):=(rfl)
theorem o_alloc {z}:opv cal bs (.alloc z) e s=some (.ref s.objs.length 0,newOb s (.cells z)):=(rfl)
theorem o_box {x}:opv cal bs (.box x) e s=(x.ev e).bind fun v=>some (.ref s.objs.length 0,newOb s (.cells v.cells)):=(rfl)
theorem o_box0 {x}:opv cal bs (.box0 x) e s=(x.ev e).bind fun v=>abox s v:=(rfl)
theorem abox_low {s v} (h:AV.lowL 0 v.cells=true):abox s v=some (.ref s.objs.length 0,newOb s (.cells v.cells)):=if_pos h
theorem o_mkm:opv cal bs .mkm e s=some (.mp s.objs.length,newOb s (.map [])):=(rfl)
theorem o_bsl {el z n ps}:opv cal bs (.bsl el z n ps) e s=(evp e ps).bind fun ps=>(fills (reps z n) ps).bind fun cs=>aslot s el n cs:=(rfl)
theorem o_msl {el z l c}:opv cal bs (.msl el z l c) e s=(l.ev e).bind fun a=>(c.ev e).bind fun b=>amsl s el z a b:=(rfl)
theorem o_store {n a x fz}:opv cal bs (.store n a x fz) e s=(a.ev e).bind fun p=>(x.ev e).bind fun v=>(frzIf fz v s).bind fun q=>astore bs n q.2 q.1 p:=(rfl)
theorem o_upd {m k x fz}:opv cal bs (.upd m k x fz) e s=(m.ev e).bind fun a=>(k.ev e).bind fun b=>(x.ev e).bind fun v=>(frzIf fz v s).bind fun q=>aupd q.2 q.1 a b:=(rfl)
theorem o_app {el x y fz}:opv cal bs (.app el x y fz) e s=(x.ev e).bind fun a=>(y.ev e).bind fun b=>(flat el b s).bind fun p=>(frzAllIf fz p.2 s).bind fun q=>agrow q.2 el p.1 q.1 a:=(rfl)
theorem o_call {f as fz}:opv cal bs (.call f as fz) e s=(f.ev e).bind fun f=>(evs e as).bind fun vs=>(frzAllIf fz vs s).bind fun q=>acall cal q.1 q.2 f:=(rfl)
theorem ac_clo {g caps vs s}:acall cal vs s (.clo g caps)=cal g (vs++caps) s:=(rfl)
theorem ev_t {i}:Arg.ev e (.t i)=get e i:=(rfl)
theorem ev_c {x}:Arg.ev e (.c x)=some x:=(rfl)
theorem evs_nil:evs e []=some []:=(rfl)
theorem evs_cons {x xs}:evs e (x::xs)=(x.ev e).bind fun v=>(evs e xs).bind fun vs=>some (v::vs):=by
 rw[evs];cases x.ev e<;>cases evs e xs<;>rfl
theorem evp_nil:evp e []=some []:=(rfl)
theorem evp_cons {o n x xs}:evp e ((o,n,x)::xs)=(x.ev e).bind fun v=>(evp e xs).bind fun vs=>some ((o,n,v)::vs):=by
 rw[evp];cases x.ev e<;>cases evp e xs<;>rfl
theorem evo_none:evo e none=some none:=(rfl)
theorem evo_some {x}:evo e (some x)=(x.ev e).bind fun v=>some (some v):=by
 rw[evo];cases x.ev e<;>rfl
theorem get_cons {k v t}:get ((k,v)::e) t=if k=t then some v else get e t:=(rfl)
theorem put_some {d v}:put e (some d) v=(d,v)::e:=(rfl)
theorem put_none {v}:put e none v=e:=(rfl)
def kpk (k:Nat) (l:Env):Option AV→Env
 | some v=>(k,v)::l
 | none=>l
theorem keep_nil:keep [] e=[]:=(rfl)
theorem keep_cons {k ks}:keep (k::ks) e=kpk k (keep ks e) (get e k):=by
 unfold keep
 rw[List.filterMap_cons]
 cases get e k<;>rfl
theorem kpk_some {k l v}:kpk k l (some v)=(k,v)::l:=(rfl)
theorem kpk_none {k l}:kpk k l none=l:=(rfl)
end
noncomputable def fk (s0:St) (rs:List (Arg × Option El)) (fz:Bool):Ex × Env × St→Option (AV × St)
 | (.exit _,_,_)=>none
 | (_,e,s)=>(results e s rs).bind fun vs=>(frzIf fz (one vs) s).bind fun q=>some (q.1,back s0 q.1 (cut s0.objs.length q.1 q.2))
theorem fk_ret {s0 rs fz e s}:fk s0 rs fz (.ret,e,s)=(results e s rs).bind fun vs=>(frzIf fz (one vs) s).bind fun q=>some (q.1,back s0 q.1 (cut s0.objs.length q.1 q.2)):=(rfl)
theorem fk_nrm {s0 rs fz e s}:fk s0 rs fz (.nrm,e,s)=(results e s rs).bind fun vs=>(frzIf fz (one vs) s).bind fun q=>some (q.1,back s0 q.1 (cut s0.objs.length q.1 q.2)):=(rfl)
theorem w_call {f c rs fz args s} (hf:F f=some ⟨c,rs,fz⟩):C F X f args s=(E F X s.objs.length c (args0 0 args) s).bind (fk s rs fz):=by
 rw[C_lit hf]
 have key:∀ e s1,fin1 s fz s1 (results e s1 rs)=(results e s1 rs).bind fun vs=>(frzIf fz (one vs) s1).bind fun q=>some (q.1,back s q.1 (cut s.objs.length q.1 q.2)):=by
  intro e s1
  cases results e s1 rs with
  | none=>rfl
  | some vs =>
   show Option.map _ _=(frzIf fz (one vs) s1).bind _
   cases frzIf fz (one vs) s1<;>rfl
 cases E F X s.objs.length c (args0 0 args) s with
 | none=>rfl
 | some p =>
  obtain⟨x,e1,s1⟩:=p
  cases x with
  | nrm=>exact key e1 s1
  | ret=>exact key e1 s1
  | exit i=>rfl
theorem args_nil {k}:args0 k []=[]:=(rfl)
theorem args_cons {k x xs}:args0 k (x::xs)=(k,x)::args0 (k+1) xs:=(rfl)
theorem nck_ref {r o}:anck (.ref r o)=some (.ref r o):=(rfl)
theorem nck_aref {r o}:anck (.aref r o)=some (.aref r o):=(rfl)
theorem nck_ep {r o}:anck (.ep r o)=some (.ep r o):=(rfl)
theorem nck_clo {r o}:anck (.clo r o)=some (.clo r o):=(rfl)
theorem pick_b {t x y}:apick (.b t) x y=some (if t then x else y):=(rfl)
theorem b_eql {k a b}:abin .eql (.i k a) (.i k b)=some (.b (a==b)):=by simp[abin]
theorem b_neq {k a b}:abin .neq (.i k a) (.i k b)=some (.b (a != b)):=by simp[abin]
theorem b_lss {k a b}:abin .lss (.i k a) (.i k b)=some (.b (decide (a<b))):=by simp[abin]
theorem b_leq {k a b}:abin .leq (.i k a) (.i k b)=some (.b (decide (a≤b))):=by simp[abin]
theorem b_gtr {k a b}:abin .gtr (.i k a) (.i k b)=some (.b (decide (a>b))):=by simp[abin]
theorem b_geq {k a b}:abin .geq (.i k a) (.i k b)=some (.b (decide (a≥b))):=by simp[abin]
theorem b_add {k a b}:abin .add (.i k a) (.i k b)=some (.i k (k.wrap (a+b))):=by simp[abin]
theorem b_sub {k a b}:abin .sub (.i k a) (.i k b)=some (.i k (k.wrap (a - b))):=by simp[abin]
theorem b_mul {k a b}:abin .mul (.i k a) (.i k b)=some (.i k (k.wrap (a*b))):=by simp[abin]
theorem s_eql {a b}:abin .eql (.s a) (.s b)=some (.b (a==b)):=(rfl)
theorem s_neq {a b}:abin .neq (.s a) (.s b)=some (.b (!(a==b))):=(rfl)
theorem u_not {t}:aun .not (.b t)=some (.b !t):=(rfl)
theorem u_neg {k n}:aun .neg (.i k n)=some (.i k (k.wrap (0 - n))):=(rfl)
theorem fad_ref {k r o}:afad k (.ref r o)=some (.ref r (o+k)):=(rfl)
theorem fad_aref {k r o}:afad k (.aref r o)=some (.aref r (o+k)):=(rfl)
theorem fad_ep {k r o}:afad k (.ep r o)=some (.ep r (o+k)):=(rfl)
theorem fld_agg {k el cs}:afld k el (.agg cs)=el.get cs k:=(rfl)
theorem ext_tup {i vs}:aext i (.tup vs)=vs[i]?:=(rfl)
theorem ld_ep {s el cs o}:aload s el (.ep cs o)=el.get cs o:=(rfl)
theorem ld_ref {s el r o cs} (h:s.objs[r]?=some (.cells cs)):aload s el (.ref r o)=el.get cs o:=by unfold aload;dsimp only;rw[h]
theorem g_one {cs k}:El.get .one cs k=cs[k]?:=(rfl)
theorem g_st {cs k n}:El.get (.st n) cs k=if k+n≤cs.length then some (.agg ((cs.drop k).take n)) else none:=(rfl)
theorem len_s {l:List UInt8}:alen true (.s l)=some (.i .i64 l.length):=(rfl)
theorem len_sl {el l}:alen false (.sl el l)=some (.i .i64 l.length):=(rfl)
theorem len_os {el a n}:alen false (.os a el n)=some (.i .i64 n):=(rfl)
theorem len_nsl:alen false .nsl=some (.i .i64 0):=(rfl)
theorem st_ref {bs n s v r o cs} (h:s.objs[r]?=some (.cells cs)):astore bs n s v (.ref r o)=if v.cells.length=n∧0<n∧o+n≤cs.length∧(r<bs→v.low 0=true) then some (.un,{ s with objs:=s.objs.set r (.cells (splice cs o v.cells)) }) else none:=by unfold astore;dsimp only;rw[h]
theorem cut_same {v s}:cut s.objs.length v s=s:=by
 unfold cut
 split
 ·show St.mk (s.objs.take s.objs.length) s.arr s.nxt=s
  rw[List.take_length]
 ·rfl
theorem cut_app {B l:List Ob} {a n v} (h:v.low B.length=true):cut B.length v ⟨B++l,a,n⟩=⟨B,a,n⟩:=by
 rw[cut_low h]
 show St.mk ((B++l).take B.length) a n=_
 rw[take_base rfl]
theorem W_some {α:Type} {r:α} {Q:α→Prop}:W (some r) Q=Q r:=propext ⟨fun ⟨q,h,k⟩=>by injection h with h;subst h;exact k,fun h=>⟨r,rfl,h⟩⟩
theorem one_nil:one []=.tup []:=(rfl)
theorem fills_nil {cs}:fills cs []=some cs:=(rfl)
theorem fills_cons {cs off n x ps}:fills cs ((off,n,x)::ps)=if x.cells.length=n∧0<n∧off+n≤cs.length then fills (splice cs off x.cells) ps else none:=(rfl)
def obj (s:St) (r:Nat):Option Ob:=s.objs[r]?
def cnt (s:St):Nat:=s.objs.length
def setOb (s:St) (r:Nat) (o:Ob):St:={ s with objs:=s.objs.set r o }
theorem cnt_eq {s:St}:s.objs.length=cnt s:=(rfl)
theorem obj_lt {s r o} (h:obj s r=some o):r<cnt s:=by
 rcases Nat.lt_or_ge r s.objs.length with k|k
 ·exact k
 ·unfold obj at h;rw[List.getElem?_eq_none k] at h;cases h
theorem obj_set {s r o} (h:r<cnt s):obj (setOb s r o) r=some o:=List.getElem?_set_self h
theorem obj_set' {s r o k} (h:r≠k):obj (setOb s r o) k=obj s k:=List.getElem?_set_ne h
theorem cnt_set {s r o}:cnt (setOb s r o)=cnt s:=List.length_set
theorem set_set {s r o o'}:setOb (setOb s r o) r o'=setOb s r o':=by unfold setOb;simp
theorem set_id {s r o} (h:obj s r=some o):setOb s r o=s:=by
 unfold setOb
 have:s.objs.set r o=s.objs:=by
  apply List.ext_getElem?
  intro k
  by_cases hk:r=k
  ·subst hk;rw[List.getElem?_set_self (obj_lt h)];exact h.symm
  ·rw[List.getElem?_set_ne hk]
 rw[this]
theorem obj_new {s o}:obj (newOb s o) (cnt s)=some o:=by unfold obj newOb cnt;simp
theorem obj_new' {s r o} (h:r<cnt s):obj (newOb s o) r=obj s r:=List.getElem?_append_left h
theorem cnt_new {s o}:cnt (newOb s o)=cnt s+1:=by unfold cnt newOb;simp
theorem set_new {s o o'}:setOb (newOb s o) (cnt s) o'=newOb s o':=by unfold setOb newOb cnt;simp
theorem set_new' {s r o o'} (h:r<cnt s):setOb (newOb s o') r o=newOb (setOb s r o) o':=by
 unfold setOb newOb
 have:(s.objs++[o']).set r o=s.objs.set r o++[o']:=List.set_append_left _ _ h
 rw[this]
theorem cut_new {s o v} (h:v.low (cnt s)=true):cut (cnt s) v (newOb s o)=s:=by
 rw[cut_low h]
 unfold newOb cnt
 simp
theorem obj_newc {s n o} (h:n=cnt s):obj (newOb s o) n=some o:=by subst h;exact obj_new
theorem set_newc {s n o o'} (h:n=cnt s):setOb (newOb s o) n o'=newOb s o':=by subst h;exact set_new
theorem cut_n2 {s n o o' v} (hn:n=cnt s) (h:v.low n=true):cut n v (newOb (newOb s o) o')=s:=by subst hn;rw[cut_low h];unfold newOb cnt;simp
theorem cut_n3 {s n o o' o'' v} (hn:n=cnt s) (h:v.low n=true):cut n v (newOb (newOb (newOb s o) o') o'')=s:=by subst hn;rw[cut_low h];unfold newOb cnt;simp
theorem back_new {s v r o}:back s v (setOb s r o)=setOb s r o:=back_mk
theorem tk_0 {s n} (h:n=cnt s):tk n s=s:=by subst h;unfold tk cnt;simp
theorem tk_1 {s n o} (h:n=cnt s):tk n (newOb s o)=s:=by subst h;unfold tk newOb cnt;simp
theorem tk_2 {s n o o'} (h:n=cnt s):tk n (newOb (newOb s o) o')=s:=by subst h;unfold tk newOb cnt;simp
theorem tk_3 {s n o o' o''} (h:n=cnt s):tk n (newOb (newOb (newOb s o) o') o'')=s:=by subst h;unfold tk newOb cnt;simp
theorem reps_0 {z}:reps z 0=[]:=(rfl)
theorem reps_1 {z}:reps z 1=z:=List.append_nil z
theorem reps_2 {z}:reps z 2=z++z:=by show z++(z++[])=_;rw[List.append_nil]
theorem reps_3 {z}:reps z 3=z++(z++z):=by show z++(z++(z++[]))=_;rw[List.append_nil]
theorem aslot_low {s el n cs} (h:AV.lowL 0 cs=true):aslot s el n cs=some (.os s.nxt el n,newAr s cs):=if_pos h
theorem flat_new {el n s cs} (h:n=s.nxt) (hl:cs.length=el.size):flat el (.os n el 1) (newAr s cs)=some (1,cs):=by
 subst h
 unfold flat
 dsimp only
 have:(newAr s cs).arr s.nxt=some cs:=by show (if s.nxt=s.nxt then some cs else _)=_;rw[if_pos rfl]
 rw[this]
 dsimp only
 rw[if_pos ⟨by rw[hl,Nat.one_mul];exact Nat.le_refl _,rfl⟩,List.take_of_length_le (by rw[hl,Nat.one_mul];exact Nat.le_refl _)]
theorem el_st {n}:El.size (.st n)=n:=(rfl)
theorem el_one:El.size .one=1:=(rfl)
theorem lev_load {el x e s}:lev (.load el x) e s=(x.ev e).bind fun a=>aload s el a:=(rfl)
theorem cut_news {s n o v} (hn:n=cnt s) (h:v.low n=true):cut n v (newOb s o)=s:=by subst hn;exact cut_new h
theorem cut_new2 {s o o' v} (h:v.low (cnt s)=true):cut (cnt s) v (newOb (newOb s o) o')=s:=by
 rw[cut_low h]
 unfold newOb cnt
 simp
theorem cut_id {s n v} (h:n=cnt s):cut n v s=s:=by subst h;exact cut_same
theorem cut_cnt {s v}:cut (cnt s) v s=s:=cut_same
theorem back_set {s v r o}:back s v (setOb s r o)=setOb s r o:=back_mk
theorem cut_set {s v r o}:cut (cnt s) v (setOb s r o)=setOb s r o:=cut_id cnt_set.symm
def ldk (el:El) (o:Nat):Option Ob→Option AV
 | some (.cells cs)=>el.get cs o
 | _=>none
theorem ldk_some {el o cs}:ldk el o (some (.cells cs))=el.get cs o:=(rfl)
theorem ld_obj {s el r o}:aload s el (.ref r o)=ldk el o (obj s r):=by
 unfold aload ldk obj
 first|(dsimp only;done)|(dsimp only;rcases s.objs[r]? with _|q;rfl;cases q<;>rfl)
def stk (bs n:Nat) (s:St) (v:AV) (r o:Nat):Option Ob→Option (AV × St)
 | some (.cells cs)=>if v.cells.length=n∧0<n∧o+n≤cs.length∧(r<bs→v.low 0=true) then some (.un,setOb s r (.cells (splice cs o v.cells))) else none
 | _=>none
theorem stk_some {bs n s v r o cs}:stk bs n s v r o (some (.cells cs))=if v.cells.length=n∧0<n∧o+n≤cs.length∧(r<bs→v.low 0=true) then some (.un,setOb s r (.cells (splice cs o v.cells))) else none:=(rfl)
theorem st_obj {bs n s v r o}:astore bs n s v (.ref r o)=stk bs n s v r o (obj s r):=by
 unfold astore stk obj
 first|(dsimp only;done)|(dsimp only;rcases s.objs[r]? with _|q;rfl;cases q<;>rfl)
theorem idx_nat {l:List UInt8} {k} {n:Nat}:aidx (.s l) (.i k (n:Int))=(l[n]?).bind fun c=>some (.i .u8 c.toNat):=by
 unfold aidx
 dsimp only
 rw[if_pos (by omega)]
 show ((l[n]?).map _)=_
 cases l[n]?<;>rfl
theorem slc_nat {l:List UInt8} {k k'} {a b:Nat} (h:a≤b) (h':b≤l.length):aslice true (.s l) (some (.i k (a:Int))) (some (.i k' (b:Int)))=some (.s ((l.take b).drop a)):=by
 unfold aslice
 dsimp only
 rw[if_pos (by omega)]
 simp
theorem wrap_nat {n:Nat} (h:n<1000000000000):IntKind.i64.wrap (n:Int)=(n:Int):=by
 unfold IntKind.wrap
 simp[IntKind.bits,IntKind.signed]
 omega
theorem wrap_add {n m:Nat} (h:n+m<1000000000000):IntKind.i64.wrap ((n:Int)+(m:Int))=((n+m:Nat):Int):=by rw[←Int.natCast_add];exact wrap_nat h
theorem wrap_one {n:Nat} (h:n<100000000000):IntKind.i64.wrap ((n:Int)+1)=((n+1:Nat):Int):=by rw[←wrap_nat (n:=n+1) (by omega)];rfl
theorem wrap_u64 {n:Nat} (h:n<18446744073709551616):IntKind.u64.wrap (n:Int)=(n:Int):=by
 unfold IntKind.wrap
 simp[IntKind.bits,IntKind.signed]
 omega
theorem wrap_u8 {n:Nat} (h:n<256):IntKind.u8.wrap (n:Int)=(n:Int):=by
 unfold IntKind.wrap
 simp[IntKind.bits,IntKind.signed]
 omega
theorem conv_i {k k' n}:aconv k (.i k' n)=some (.i k (k.wrap n)):=(rfl)
theorem slc_from {l:List UInt8} {k} {a:Nat} (h:a≤l.length):aslice true (.s l) (some (.i k (a:Int))) none=some (.s (l.drop a)):=by
 unfold aslice
 dsimp only
 rw[if_pos (by omega)]
 simp
theorem cells_i {k n}:AV.cells (.i k n)=[.i k n]:=(rfl)
theorem cells_s {l}:AV.cells (.s l)=[.s l]:=(rfl)
theorem cells_b {t}:AV.cells (.b t)=[.b t]:=(rfl)
theorem cells_nsl:AV.cells .nsl=[.nsl]:=(rfl)
theorem cells_sl {el l}:AV.cells (.sl el l)=[.sl el l]:=(rfl)
theorem cells_os {el a n}:AV.cells (.os a el n)=[.os a el n]:=(rfl)
theorem cells_agg {cs}:AV.cells (.agg cs)=cs:=(rfl)
theorem cells_clo {f cs}:AV.cells (.clo f cs)=[.clo f cs]:=(rfl)
theorem cells_ref {r o}:AV.cells (.ref r o)=[.ref r o]:=(rfl)
theorem w_lp {bs a L e s} (h:L=.loop a):E F X bs L e s=(E F X bs a e s).bind (sqk F X bs L):=by subst h;exact w_loop
theorem W.loop {bs a L} {Q:Ex × Env × St→Prop} (hL:L=.loop a) (I:Nat→Env→St→Prop) (step:∀ n e s,I n e s→W (E F X bs a e s) fun r=>match r with|(.nrm,e',s')=>∃ m,m<n∧I m e' s'|r=>Q r):∀ n e s,I n e s→W (E F X bs L e s) Q:=by
 intro n
 induction n using Nat.strongRecOn with
 | _ n ih =>
  intro e s hI
  rw[w_lp hL]
  refine W.step (step n e s hI) (fun r hr=>?_)
  obtain⟨x,e',s'⟩:=r
  cases x with
  | nrm =>
   obtain⟨m,hm,hI'⟩:=hr
   exact ih m hm e' s' hI'
  | exit i=>exact W.mk hr
  | ret=>exact W.mk hr
theorem low_b {n:Nat} {b:Bool}:AV.low n (.b b)=true:=(rfl)
theorem low_i {n:Nat} {k:IntKind} {m:Int}:AV.low n (.i k m)=true:=(rfl)
theorem low_s {n:Nat} {t:List UInt8}:AV.low n (.s t)=true:=(rfl)
theorem low_nsl {n:Nat}  : AV.low n (.nsl)=true:=(rfl)
theorem low_np {n:Nat}  : AV.low n (.np)=true:=(rfl)
theorem low_nf {n:Nat}  : AV.low n (.nf)=true:=(rfl)
theorem low_nm {n:Nat}  : AV.low n (.nm)=true:=(rfl)
theorem low_sl {n:Nat} {el:El} {xs:List AV}:AV.low n (.sl el xs)=true:=(rfl)
theorem low_os {n:Nat} {a r:Nat} {el:El}:AV.low n (.os a el r)=true:=(rfl)
theorem low_un {n:Nat}  : AV.low n (.un)=true:=(rfl)
theorem low_aref {n:Nat} {r o:Nat}:AV.low n (.aref r o)=true:=(rfl)
theorem low_ref {n r o:Nat}:AV.low n (.ref r o)=decide (r<n):=(rfl)
theorem low_mp {n r:Nat}:AV.low n (.mp r)=decide (r<n):=(rfl)
theorem low_agg {n cs}:AV.low n (.agg cs)=AV.lowL n cs:=(rfl)
theorem low_tup {n cs}:AV.low n (.tup cs)=AV.lowL n cs:=(rfl)
theorem low_clo {n f cs}:AV.low n (.clo f cs)=AV.lowL n cs:=(rfl)
theorem low_ep {n o cs}:AV.low n (.ep cs o)=true:=(rfl)
theorem lowL_nil {n}:AV.lowL n []=true:=(rfl)
theorem lowL_cons {n x xs}:AV.lowL n (x::xs)=(AV.low n x&&AV.lowL n xs):=(rfl)
attribute [go_sem] reps_0 reps_1 reps_2 reps_3 aslot_low flat_new el_st el_one lowE_nil lowE_cons tk_0 tk_1 tk_2 tk_3 bne_self_eq_false beq_self_eq_true decide_true decide_false lev_load obj_newc set_newc obj_new' set_new' cut_n2 cut_n3 cut_news Nat.lt_add_one Nat.lt_irrefl Bool.not_true Bool.not_false conv_i fills_nil fills_cons one_nil obj_set cut_cnt cnt_eq cnt_set cnt_new set_set obj_new set_new back_set cut_set ld_obj ldk_some st_obj stk_some idx_nat cells_i cells_s cells_b cells_nsl cells_sl cells_os cells_agg cells_clo cells_ref
attribute [go_sem] E_two twk_eq tsk_eq Nat.add_zero Nat.zero_add List.length_cons List.length_nil List.take_succ_cons List.take_zero List.drop_succ_cons List.drop_zero List.take_nil List.drop_nil and_self true_and and_true implies_true low_b low_i low_s low_nsl low_np low_nf low_nm low_sl low_os low_un low_aref low_ref low_mp low_agg low_tup low_clo low_ep lowL_nil lowL_cons splice Bool.and_true Bool.true_and List.append_nil List.cons_append List.nil_append List.getElem?_cons_zero List.getElem?_cons_succ cut_same W_some w_seq w_block w_trn w_skip w_ret w_exit w_cond w_reg rgk_eq w_nil w_op w_chk w_grd w_grdc w_still w_stills tryk_t tryk_bind sqk_nrm sqk_ret sqk_exit bkk_nrm bkk_ret bkk_exit trk_eq cdk_b te_eq tb_eq tro_eq toq_eq too_eq opk_eq chk_eq gdk_t gdk_f gdk_un bind_sm bind_as kc_eq ifc_bind ifc_t ifc_f ifc_not
 o_mv o_pick o_nck o_bin o_eqs o_un o_conv o_min o_len o_mkf o_build o_fad o_fld o_iad o_idx o_ext o_slc o_load o_look o_alloc o_box o_box0 abox_low o_mkm o_bsl o_msl o_store o_upd o_app o_call ac_clo ev_t ev_c evs_nil evs_cons evp_nil evp_cons evo_none evo_some get_cons put_some put_none keep_nil keep_cons kpk_some kpk_none
 fk_ret fk_nrm args_nil args_cons nck_ref nck_aref nck_ep nck_clo pick_b b_eql b_neq b_lss b_leq b_gtr b_geq b_add b_sub b_mul s_eql s_neq u_not u_neg fad_ref fad_aref fad_ep fld_agg ext_tup ld_ep g_one g_st len_s len_sl len_os len_nsl
 res_tmp res_cell res_nil one_one one_two frzIf_no frzAllIf_no frzIf_yes frzAllIf_yes back_self back_mk
end
end Go.Am
