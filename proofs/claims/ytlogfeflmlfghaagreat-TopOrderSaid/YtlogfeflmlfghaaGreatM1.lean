/- Part 1 of a machine for Go's pure part and of walks on it. -/
import Derived.Test.YtlogfeflmlfghaaGreatM0
open Nat renaming reduceEqDiff → nA,reduceAdd → nB,reduceLeDiff → nC,reduceLT → nD,reduceMul → nE
open Int renaming reduceBEq → iA,reduceBNe → iB,reduceLT → iC,reduceLE → iD,reduceGT → iE,reduceGE → iF
set_option maxRecDepth 100000
set_option linter.unusedSimpArgs false
set_option linter.unusedVariables false
set_option linter.unusedSectionVars false
namespace Go.Am
open Go
abbrev yi (n:Int):AV:=.i .i64 n
abbrev xi (n:Int):Arg:=.c (.i .i64 n)
abbrev xo (d:Nat) (o:AOp):AX:=⟨some d,o,none,[]⟩
abbrev xt (g d:Nat) (o:AOp):AX:=⟨some d,o,some (g,true),[]⟩
abbrev xu (g d:Nat) (o:AOp):AX:=⟨some d,o,some (g,false),[]⟩
abbrev xm (d a:Nat):AX:=⟨some d,.mv (.t a),none,[]⟩
abbrev xl (d a:Nat):AX:=⟨some d,.load .one (.t a),none,[]⟩
abbrev xe (d k a:Nat):AX:=⟨some d,.load (.st k) (.t a),none,[]⟩
abbrev xf (d k a:Nat):AX:=⟨some d,.fad k (.t a),none,[]⟩
abbrev xk (d a:Nat):AX:=⟨some d,.nck (.t a),none,[]⟩
abbrev xq (d a b:Nat):AX:=⟨some d,.iad .one (.t a) (.t b),none,[]⟩
abbrev xn (d a:Nat):AX:=⟨some d,.len false (.t a),none,[]⟩
abbrev xs (n a b:Nat):AX:=⟨none,.store n (.t a) (.t b) false,none,[]⟩
abbrev xc (d f:Nat) (l:List Arg):AX:=⟨some d,.call (.c (.clo f [])) l false,none,[]⟩
abbrev xb (d:Nat) (o:BinOp) (a b:Nat):AX:=⟨some d,.bin o (.t a) (.t b),none,[]⟩
abbrev xd (d:Nat) (o:BinOp) (a:Nat) (n:Int):AX:=⟨some d,.bin o (.t a) (.c (.i .i64 n)),none,[]⟩
abbrev xv (d:Nat) (x:AV):AX:=⟨some d,.mv (.c x),none,[]⟩
abbrev xx (d a k:Nat):AX:=⟨some d,.ext (.t a) k,none,[]⟩
abbrev xa (d:Nat) (l:List AV):AX:=⟨some d,.alloc l,none,[]⟩
abbrev xp (d a b c:Nat):AX:=⟨some d,.pick (.t a) (.t b) (.t c),none,[]⟩
abbrev xr (k:List Nat) (l:List AX):ACode:=.reg (some k) l
abbrev o3_0:=[xv 2 (.b false)]
abbrev o3_1:=[xm 15 0,xc 16 4 [.t 15],xm 14 16,xx 17 14 0,xx 18 14 1,xa 3 [.nsl,.nsl,.nsl],xa 4 [(yi 0),(yi 0),(yi 0)],xs 3 3 17,xs 3 4 18]
abbrev o3_2:=[xf 19 0 4,xl 20 19,xd 21 .neq 20 0,xm 22 21,xu 22 23 (.load (.st 3) (.t 3)),xu 22 24 (.call (.c (.clo 5 [])) [.t 23] false),xu 22 25 (.fld 0 .one (.t 24)),xu 22 26 (.bin .neq (.t 25) (xi 0)),xo 27 (.pick (.t 22) (.c (.b true)) (.t 26))]
abbrev o3_3:=[xc 28 6 [],xm 2 28]
abbrev o3_4:=[xf 29 2 3,xl 30 29,xc 31 7 [.t 30],xm 5 31]
abbrev o3_5:=[xf 32 2 3,xl 33 32,xc 34 8 [.t 33],xm 6 34]
abbrev o3_6:=[xv 7 .nsl]
abbrev o3_7:=[xv 8 (yi 0)]
abbrev o3_8:=[xv 9 (yi 0)]
abbrev o3_9:=[xm 35 9,xm 36 5,xn 37 36,xb 38 .lss 35 37]
abbrev o3_10:=[xv 10 (yi 0)]
abbrev o3_11:=[xm 41 10,xm 42 5,xm 43 9,xq 44 42 43,xl 45 44,xn 46 45,xb 47 .lss 41 46]
abbrev o3_12:=[xm 50 5,xm 51 9,xq 52 50 51,xl 53 52,xm 54 10,xq 55 53 54,xl 56 55,xd 57 .lss 56 0,xm 58 57,xu 58 59 (.mv (.t 5)),xu 58 60 (.mv (.t 9)),xu 58 61 (.iad .one (.t 59) (.t 60)),xu 58 62 (.load .one (.t 61)),xu 58 63 (.mv (.t 10)),xu 58 64 (.iad .one (.t 62) (.t 63)),xu 58 65 (.load .one (.t 64)),xu 58 66 (.mv (.t 6)),xu 58 67 (.len false (.t 66)),
 xu 58 68 (.bin .geq (.t 65) (.t 67)),xo 69 (.pick (.t 58) (.c (.b true)) (.t 68))]
abbrev o3_13:=[xv 2 (.b false)]
abbrev o3_14:=[xm 70 7,xm 71 6,xm 72 5,xm 73 9,xq 74 72 73,xl 75 74,xm 76 10,xq 77 75 76,xl 78 77,xq 79 71 78,xl 80 79,xo 81 (.bsl .one [(.s [])] 1 [(0,1,(.t 80))]),xo 82 (.app .one (.t 70) (.t 81) false),xm 7 82]
abbrev o3_15:=[xm 83 8,xd 84 .add 83 1,xm 8 84]
abbrev o3_16:=[xm 48 10,xd 49 .add 48 1,xm 10 49]
def l3_0:ACode:=(.loop (.seq (.seq (xr [3,5,6,7,8,9,10,47] o3_11) (.cond (.t 47) .skip (.exit 2))) (.seq (.block 3 (.seq (.seq (xr [3,5,6,7,8,9,10,69] o3_12) (.cond (.t 69) (.seq (xr [2] o3_13) .ret) .skip)) (.seq (xr [3,5,6,7,8,9,10] o3_14) (xr [3,5,6,7,8,9,10] o3_15)))) (xr [3,5,6,7,8,9,10] o3_16))))
abbrev o3_17:=[xv 11 (yi 0)]
abbrev o3_18:=[xm 85 11,xm 86 5,xm 87 9,xq 88 86 87,xl 89 88,xn 90 89,xb 91 .lss 85 90]
abbrev o3_19:=[xf 94 2 3,xl 95 94,xm 96 5,xm 97 9,xq 98 96 97,xl 99 98,xm 100 11,xq 101 99 100,xl 102 101,xo 103 (.iad (.st 4) (.t 95) (.t 102)),xe 104 4 103,xc 105 9 [.t 104],xm 12 105]
abbrev o3_20:=[xv 13 (yi 0)]
abbrev o3_21:=[xm 106 13,xm 107 12,xn 108 107,xb 109 .lss 106 108]
abbrev o3_22:=[xm 112 6,xm 113 12,xm 114 13,xq 115 113 114,xl 116 115,xc 117 10 [.t 112,.t 116],xm 118 117,xt 118 119 (.mv (.t 7)),xt 118 120 (.mv (.t 12)),xt 118 121 (.mv (.t 13)),xt 118 122 (.iad .one (.t 120) (.t 121)),xt 118 123 (.load .one (.t 122)),xt 118 124 (.call (.c (.clo 10 [])) [.t 119,.t 123] false),xt 118 125 (.un .not (.t 124)),
 xo 126 (.pick (.t 118) (.t 125) (.c (.b false)))]
abbrev o3_23:=[xv 2 (.b false)]
abbrev o3_24:=[xm 110 13,xd 111 .add 110 1,xm 13 111]
def l3_1:ACode:=(.loop (.seq (.seq (xr [3,5,6,7,8,9,11,12,13,109] o3_21) (.cond (.t 109) .skip (.exit 6))) (.seq (.block 7 (.seq (xr [3,5,6,7,8,9,11,12,13,126] o3_22) (.cond (.t 126) (.seq (xr [2] o3_23) .ret) .skip))) (xr [3,5,6,7,8,9,11,12,13] o3_24))))
abbrev o3_25:=[xm 92 11,xd 93 .add 92 1,xm 11 93]
def l3_2:ACode:=(.loop (.seq (.seq (xr [3,5,6,7,8,9,11,91] o3_18) (.cond (.t 91) .skip (.exit 4))) (.seq (.block 5 (.seq (xr [3,5,6,7,8,9,11,12] o3_19) (.seq (xr [3,5,6,7,8,9,11,12,13] o3_20) (.block 6 l3_1)))) (xr [3,5,6,7,8,9,11] o3_25))))
abbrev o3_26:=[xm 39 9,xd 40 .add 39 1,xm 9 40]
def l3_3:ACode:=(.loop (.seq (.seq (xr [3,5,6,7,8,9,38] o3_9) (.cond (.t 38) .skip (.exit 0))) (.seq (.block 1 (.seq (.seq (xr [3,5,6,7,8,9,10] o3_10) (.block 2 l3_0)) (.seq (xr [3,5,6,7,8,9,11] o3_17) (.block 4 l3_2)))) (xr [3,5,6,7,8,9] o3_26))))
abbrev o3_27:=[xm 127 8,xm 128 6,xn 129 128,xb 130 .eql 127 129,xm 131 130,xt 131 132 (.call (.c (.clo 6 [])) [] false),xo 133 (.pick (.t 131) (.t 132) (.c (.b false))),xm 2 133]
def a3:AFunc:=⟨(.seq (xr [0] o3_0) (.seq (xr [3,4] o3_1) (.seq (.seq (xr [3,27] o3_2) (.cond (.t 27) (.seq (xr [2] o3_3) .ret) .skip)) (.seq (xr [3,5] o3_4) (.seq (xr [3,5,6] o3_5) (.seq (xr [3,5,6,7] o3_6) (.seq (xr [3,5,6,7,8] o3_7) (.seq (.seq (xr [3,5,6,7,8,9] o3_8) (.block 0 l3_3)) (.seq (xr [2] o3_27) .ret))))))))),
  [(.t 2,none)],false⟩
abbrev o4_0:=[xa 2 [.nsl,.nsl,.nsl],xa 3 [(yi 0),(yi 0),(yi 0)]]
abbrev o4_1:=[xm 7 0,xc 8 11 [.t 7],xa 4 [.np],xs 1 4 8]
abbrev o4_2:=[xa 5 [.nsl,.nsl,.nsl]]
abbrev o4_3:=[xl 9 4,xo 10 (.mkf 13 [.t 4,.t 5]),xc 11 12 [.t 9,.t 10]]
abbrev o4_4:=[xl 12 4,xo 13 (.call (.c (.clo 15 [])) [.t 12,(.c (.s [125]))] false)]
abbrev o4_5:=[xl 14 4,xc 15 16 [.t 14]]
abbrev o4_6:=[xf 16 1 5,xl 17 16,xo 18 (.build [.nsl,(.b false),(yi 0),(yi 0),(yi 0)] [(0,1,(.t 17))]),xo 19 (.box (.t 18)),xm 6 19]
abbrev o4_7:=[xl 20 4,xk 21 20,xf 22 2 21,xl 23 22,xo 24 (.un .not (.t 23))]
abbrev o4_8:=[xm 25 6,xf 26 2 5,xl 27 26,xo 28 (.call (.c (.clo 17 [])) [.t 25,.t 27] true),xf 29 2 5,xs 1 29 28]
abbrev o4_9:=[xl 30 4,xl 31 4,xm 32 6,xk 33 32,xf 34 1 33,xl 35 34,xm 36 6,xk 37 36,xf 38 2 37,xe 39 3 38,xk 40 30,xf 41 2 40,⟨none,(.store 1 (.t 41) (.t 35) false),none,[(31,none,(.load .one (.t 4)))]⟩,xk 42 31,xf 43 3 42,xs 3 43 39]
abbrev o4_10:=[xl 44 4,xk 45 44,xf 46 2 45,xl 47 46]
abbrev o4_11:=[xo 48 (.build [.nsl,.nsl,.nsl] []),xl 49 4,xk 50 49,xf 51 3 50,xe 52 3 51,⟨none,(.store 3 (.t 2) (.t 48) false),none,[(49,none,(.load .one (.t 4))),(52,none,(.load (.st 3) (.t 51)))]⟩,xs 3 3 52]
abbrev o4_12:=[xe 53 3 5,xo 54 (.build [(yi 0),(yi 0),(yi 0)] []),xs 3 2 53,xs 3 3 54]
def a4:AFunc:=⟨(.seq (xr [0,2,3] o4_0) (.seq (xr [2,3,4] o4_1) (.seq (xr [2,3,4,5] o4_2) (.seq (xr [2,3,4,5] o4_3) (.seq (xr [2,3,4,5] o4_4) (.seq (xr [2,3,4,5] o4_5) (.seq (xr [2,3,4,5,6] o4_6) (.seq (.seq (xr [2,3,4,5,6,24] o4_7) (.cond (.t 24) (.seq (xr [2,3,4,5,6] o4_8) (xr [2,3,4,5] o4_9)) .skip)) (.seq (.seq (xr [2,3,4,5,47] o4_10) (.cond (.t 47) (.seq (xr [2,3] o4_11) .ret) .skip)) (.seq (xr [2,3] o4_12) .ret)))))))))),
  [(.t 2,some (.st 3)),(.t 3,some (.st 3))],true⟩
abbrev o5_0:=[xo 1 (.box (.t 0)),xa 2 [(yi 0),(yi 0),(yi 0)]]
abbrev o5_1:=[xe 9 3 1,xc 10 18 [.t 9],xo 11 (.un .not (.t 10))]
abbrev o5_2:=[xo 12 (.build [(yi 0),(yi 0),(yi 0)] [(0,1,(xi 1))]),xs 3 2 12]
abbrev o5_3:=[xf 14 0 1,xl 15 14,xc 16 19 [.t 15],xm 13 16,xx 17 13 0,xx 18 13 1,xa 4 [(yi 0),(yi 0),(yi 0)],xm 3 17,xs 3 4 18]
abbrev o5_4:=[xf 19 0 4,xl 20 19,xd 21 .neq 20 0]
abbrev o5_5:=[xe 22 3 4,xs 3 2 22]
abbrev o5_6:=[xm 23 3,xo 24 (.build [.np,.nsl,(yi 0),(yi 0),(yi 0),(.b false)] [(0,1,(.t 23))]),xo 25 (.box (.t 24)),xm 5 25]
abbrev o5_7:=[xv 6 .nsl]
abbrev o5_8:=[xf 26 1 1,xl 27 26,xn 28 27,xv 29 (yi 0)]
abbrev o5_9:=[xb 30 .lss 29 28]
abbrev o5_10:=[xo 31 (.iad (.st 5) (.t 27) (.t 29)),xe 32 5 31,xa 8 [(.s []),(yi 0),(yi 0),(yi 0),(yi 0)],xs 5 8 32]
abbrev o5_11:=[xm 33 6,xf 34 0 8,xl 35 34,xc 36 20 [.t 33,.t 35]]
abbrev o5_12:=[xm 37 5,xf 38 3 8,xe 39 2 38,xc 40 21 [.t 37,(xi 80),.t 39]]
abbrev o5_13:=[xm 41 6,xf 42 0 8,xl 43 42,xo 44 (.bsl .one [(.s [])] 1 [(0,1,(.t 43))]),xo 45 (.app .one (.t 41) (.t 44) false),xm 6 45]
abbrev o5_14:=[xd 46 .add 29 1,xm 29 46]
def l5_0:ACode:=(.loop (.trn (.seq (xr [1,2,5,6,27,28,29,30] o5_9) (.seq (.cond (.t 30) .skip (.exit 0)) (.seq (.block 1 (.seq (xr [1,2,5,6,8,27,28,29] o5_10) (.seq (.seq (xr [1,2,5,6,8,27,28,29,36] o5_11) (.cond (.t 36) (xr [1,2,5,6,8,27,28,29] o5_12) .skip)) (xr [1,2,5,6,27,28,29] o5_13)))) (xr [1,2,5,6,27,28,29] o5_14))))))
abbrev o5_15:=[xm 47 5,xf 48 2 1,xl 49 48,xo 50 (.call (.c (.clo 22 [])) [.t 47,.t 49,(.c (.clo 23 []))] false)]
abbrev o5_16:=[xm 51 5,xk 52 51,xf 53 2 52,xe 54 3 53,xs 3 2 54]
def a5:AFunc:=⟨(.seq (xr [1,2] o5_0) (.seq (.seq (xr [1,2,11] o5_1) (.cond (.t 11) (.seq (xr [2] o5_2) .ret) .skip)) (.seq (xr [1,2,3,4] o5_3) (.seq (.seq (xr [1,2,3,4,21] o5_4) (.cond (.t 21) (.seq (xr [2] o5_5) .ret) .skip)) (.seq (xr [1,2,5] o5_6) (.seq (xr [1,2,5,6] o5_7) (.seq (.seq (xr [1,2,5,6,27,28,29] o5_8) (.block 0 l5_0)) (.seq (xr [2,5] o5_15) (.seq (xr [2] o5_16) .ret))))))))),
  [(.t 2,some (.st 3))],false⟩
abbrev o6_0:=[xv 0 (.b false)]
abbrev o6_1:=[xo 5 (.call (.c (.clo 4 [])) [(.c (.s [102,32,61,32,103,10,103,32,61,32,102,10,104,32,61,32,102]))] false),xm 4 5,xx 6 4 0,xx 7 4 1,xa 1 [.nsl,.nsl,.nsl],xa 2 [(yi 0),(yi 0),(yi 0)],xs 3 1 6,xs 3 2 7]
abbrev o6_2:=[xf 8 2 1,xl 9 8,xc 10 7 [.t 9],xm 3 10]
abbrev o6_3:=[xf 11 0 2,xl 12 11,xd 13 .eql 12 0,xm 14 13,xt 14 15 (.load (.st 3) (.t 1)),xt 14 16 (.call (.c (.clo 5 [])) [.t 15] false),xt 14 17 (.fld 0 .one (.t 16)),xt 14 18 (.bin .eql (.t 17) (xi 0)),xo 19 (.pick (.t 14) (.t 18) (.c (.b false))),xm 20 19,xt 20 21 (.mv (.t 3)),xt 20 22 (.len false (.t 21)),xt 20 23 (.bin .eql (.t 22) (xi 2)),
 xo 24 (.pick (.t 20) (.t 23) (.c (.b false))),xm 25 24,xt 25 26 (.mv (.t 3)),xt 25 27 (.iad .one (.t 26) (xi 0)),xt 25 28 (.load .one (.t 27)),xt 25 29 (.len false (.t 28)),xt 25 30 (.bin .eql (.t 29) (xi 2)),xo 31 (.pick (.t 25) (.t 30) (.c (.b false))),xm 32 31,xt 32 33 (.mv (.t 3)),xt 32 34 (.iad .one (.t 33) (xi 1)),xt 32 35 (.load .one (.t 34)),
 xt 32 36 (.len false (.t 35)),xt 32 37 (.bin .eql (.t 36) (xi 1)),xo 38 (.pick (.t 32) (.t 37) (.c (.b false))),xm 0 38]
def a6:AFunc:=⟨(.seq (xr [] o6_0) (.seq (xr [1,2] o6_1) (.seq (xr [1,2,3] o6_2) (.seq (xr [0] o6_3) .ret)))),
  [(.t 0,none)],false⟩
abbrev o7_0:=[xv 2 .nsl]
abbrev o7_1:=[xv 3 .nsl]
abbrev o7_2:=[xm 15 0,xn 16 15,xv 17 (yi 0)]
abbrev o7_3:=[xb 18 .lss 17 16]
abbrev o7_4:=[xo 19 (.iad (.st 4) (.t 15) (.t 17)),xe 20 4 19,xa 5 [(.s []),.nsl,(yi 0),(yi 0)],xs 4 5 20]
abbrev o7_5:=[xm 21 3,xf 22 0 5,xl 23 22,xo 24 (.bsl .one [(.s [])] 1 [(0,1,(.t 23))]),xo 25 (.app .one (.t 21) (.t 24) false),xm 3 25]
abbrev o7_6:=[xd 26 .add 17 1,xm 17 26]
def l7_0:ACode:=(.loop (.trn (.seq (xr [0,3,15,16,17,18] o7_3) (.seq (.cond (.t 18) .skip (.exit 0)) (.seq (.block 1 (.seq (xr [0,3,5,15,16,17] o7_4) (xr [0,3,15,16,17] o7_5))) (xr [0,3,15,16,17] o7_6))))))
abbrev o7_7:=[xv 6 .nsl]
abbrev o7_8:=[xm 27 0,xn 28 27,xv 29 (yi 0)]
abbrev o7_9:=[xb 30 .lss 29 28]
abbrev o7_10:=[xo 31 (.iad (.st 4) (.t 27) (.t 29)),xe 32 4 31,xa 8 [(.s []),.nsl,(yi 0),(yi 0)],xs 4 8 32]
abbrev o7_11:=[xv 9 .nsl]
abbrev o7_12:=[xe 33 4 8,xc 34 9 [.t 33],xn 35 34,xv 36 (yi 0)]
abbrev o7_13:=[xb 37 .lss 36 35]
abbrev o7_14:=[xq 38 34 36,xl 39 38,xm 11 39]
abbrev o7_15:=[xm 40 3,xm 41 11,xc 42 24 [.t 40,.t 41],xm 12 42]
abbrev o7_16:=[xm 43 12,xd 44 .geq 43 0]
abbrev o7_17:=[xm 45 9,xm 46 12,xo 47 (.bsl .one [(yi 0)] 1 [(0,1,(.t 46))]),xo 48 (.app .one (.t 45) (.t 47) false),xm 9 48]
abbrev o7_18:=[xd 49 .add 36 1,xm 36 49]
def l7_1:ACode:=(.loop (.seq (xr [3,6,9,27,28,29,34,35,36,37] o7_13) (.seq (.cond (.t 37) .skip (.exit 4)) (.seq (.block 5 (.seq (xr [3,6,9,11,27,28,29,34,35,36] o7_14) (.seq (xr [3,6,9,12,27,28,29,34,35,36] o7_15) (.seq (xr [3,6,9,12,27,28,29,34,35,36,44] o7_16) (.cond (.t 44) (xr [3,6,9,27,28,29,34,35,36] o7_17) .skip))))) (xr [3,6,9,27,28,29,34,35,36] o7_18)))))
abbrev o7_19:=[xm 50 6,xm 51 9,xo 52 (.bsl .one [.nsl] 1 [(0,1,(.t 51))]),xo 53 (.app .one (.t 50) (.t 52) false),xm 6 53]
abbrev o7_20:=[xd 54 .add 29 1,xm 29 54]
def l7_2:ACode:=(.loop (.trn (.seq (xr [3,6,27,28,29,30] o7_9) (.seq (.cond (.t 30) .skip (.exit 2)) (.seq (.block 3 (.seq (xr [3,6,8,27,28,29] o7_10) (.seq (xr [3,6,8,9,27,28,29] o7_11) (.seq (.seq (xr [3,6,9,27,28,29,34,35,36] o7_12) (.block 4 l7_1)) (xr [3,6,27,28,29] o7_19))))) (xr [3,6,27,28,29] o7_20))))))
abbrev o7_21:=[xm 56 6,xo 57 (.call (.c (.clo 25 [])) [.t 56] true),xm 55 57,xx 58 55 0,xx 59 55 1,xm 13 58,xm 14 59]
abbrev o7_22:=[xm 60 13,xm 2 60]
def a7:AFunc:=⟨(.seq (xr [0] o7_0) (.seq (xr [0,3] o7_1) (.seq (.seq (xr [0,3,15,16,17] o7_2) (.block 0 l7_0)) (.seq (xr [0,3,6] o7_7) (.seq (.seq (xr [3,6,27,28,29] o7_8) (.block 2 l7_2)) (.seq (xr [13] o7_21) (.seq (xr [2] o7_22) .ret))))))),
  [(.t 2,none)],true⟩
abbrev o8_0:=[xv 2 .nsl]
abbrev o8_1:=[xv 3 .nsl]
abbrev o8_2:=[xv 4 (yi 0)]
abbrev o8_3:=[xm 5 4,xm 6 0,xn 7 6,xb 8 .lss 5 7]
abbrev o8_4:=[xm 11 3,xm 12 0,xm 13 4,xo 14 (.iad (.st 4) (.t 12) (.t 13)),xf 15 0 14,xl 16 15,xo 17 (.bsl .one [(.s [])] 1 [(0,1,(.t 16))]),xo 18 (.app .one (.t 11) (.t 17) false),xm 3 18]
abbrev o8_5:=[xm 9 4,xd 10 .add 9 1,xm 4 10]
def l8_0:ACode:=(.loop (.seq (.seq (xr [0,3,4,8] o8_3) (.cond (.t 8) .skip (.exit 0))) (.seq (.block 1 (xr [0,3,4] o8_4)) (xr [0,3,4] o8_5))))
abbrev o8_6:=[xm 19 3,xm 2 19]
def a8:AFunc:=⟨(.seq (xr [0] o8_0) (.seq (xr [0,3] o8_1) (.seq (.seq (xr [0,3,4] o8_2) (.block 0 l8_0)) (.seq (xr [2] o8_6) .ret)))),
  [(.t 2,none)],true⟩
abbrev o9_0:=[xo 1 (.box (.t 0)),xv 2 .nsl]
abbrev o9_1:=[xo 5 (.build [.nsl,.nsl] []),xo 6 (.box (.t 5)),xm 3 6]
abbrev o9_2:=[xe 7 4 1,xo 8 (.bsl (.st 4) [(.s []),.nsl,(yi 0),(yi 0)] 1 [(0,4,(.t 7))]),xm 4 8]
abbrev o9_3:=[xm 9 4,xo 10 (.build [.nsl,.nsl,.nsl] [(2,1,(.t 9))]),xc 11 18 [.t 10]]
abbrev o9_4:=[xm 12 3,xm 13 4,xc 14 26 [.t 12,.t 13]]
abbrev o9_5:=[xm 15 3,xk 16 15,xf 17 1 16,xl 18 17,xm 2 18]
def a9:AFunc:=⟨(.seq (xr [1] o9_0) (.seq (xr [1,3] o9_1) (.seq (.seq (xr [3,4] o9_2) (.seq (xr [3,4,11] o9_3) (.cond (.t 11) (xr [3] o9_4) .skip))) (.seq (xr [2] o9_5) .ret)))),
  [(.t 2,none)],true⟩
abbrev o10_0:=[xv 4 (.b false)]
abbrev o10_1:=[xv 5 (yi 0)]
abbrev o10_2:=[xm 6 5,xm 7 0,xn 8 7,xb 9 .lss 6 8]
abbrev o10_3:=[xm 12 0,xm 13 5,xq 14 12 13,xl 15 14,xm 16 1,xb 17 .eql 15 16]
abbrev o10_4:=[xv 4 (.b true)]
abbrev o10_5:=[xm 10 5,xd 11 .add 10 1,xm 5 11]
def l10_0:ACode:=(.loop (.seq (.seq (xr [0,1,5,9] o10_2) (.cond (.t 9) .skip (.exit 0))) (.seq (.block 1 (.seq (xr [0,1,5,17] o10_3) (.cond (.t 17) (.seq (xr [4] o10_4) .ret) .skip))) (xr [0,1,5] o10_5))))
abbrev o10_6:=[xv 4 (.b false)]
def a10:AFunc:=⟨(.seq (xr [0,1] o10_0) (.seq (.seq (xr [0,1,5] o10_1) (.block 0 l10_0)) (.seq (xr [4] o10_6) .ret))),
  [(.t 4,none)],false⟩
abbrev o11_0:=[xv 2 .np]
abbrev o11_1:=[xm 7 0,xc 8 27 [.t 7],xm 6 8,xx 9 6 0,xx 10 6 1,xa 4 [(yi 0),(yi 0),(yi 0)],xm 3 9,xs 3 4 10]
abbrev o11_2:=[xf 11 0 4,xl 12 11,xd 13 .neq 12 0,xe 14 3 4,xo 15 (.build [.nsl,(yi 0),(.b false),(yi 0),(yi 0),(yi 0)] [(2,1,(.t 13)),(3,3,(.t 14))]),xo 16 (.box (.t 15)),xm 5 16]
abbrev o11_3:=[xm 17 5,xk 18 17,xf 19 2 18,xl 20 19,xo 21 (.un .not (.t 20))]
abbrev o11_4:=[xm 22 5,xm 23 3,xc 24 28 [.t 23],xk 25 22,xf 26 0 25,xs 1 26 24]
abbrev o11_5:=[xm 27 5,xm 2 27]
def a11:AFunc:=⟨(.seq (xr [0] o11_0) (.seq (xr [3,4] o11_1) (.seq (xr [3,5] o11_2) (.seq (.seq (xr [3,5,21] o11_3) (.cond (.t 21) (xr [5] o11_4) .skip)) (.seq (xr [2] o11_5) .ret))))),
  [(.t 2,none)],false⟩
abbrev o12_0:=[xv 4 (yi 0)]
abbrev o12_1:=[xm 6 0,xo 7 (.call (.c (.clo 15 [])) [.t 6,(.c (.s [123]))] false)]
abbrev o12_2:=[xv 5 (yi 0)]
abbrev o12_3:=[xm 8 0,xk 9 8,xf 10 2 9,xl 11 10,xo 12 (.un .not (.t 11))]
abbrev o12_4:=[xm 14 0,xo 15 (.call (.c (.clo 29 [])) [.t 14,(.c (.s [125]))] false),xm 13 15]
abbrev o12_5:=[xm 17 0,xo 18 (.call (.c (.clo 29 [])) [.t 17,(.c (.s [59]))] false),xm 16 18]
abbrev o12_6:=[xm 19 0,xc 20 30 [.t 19]]
abbrev o12_7:=[xm 21 1,xo 22 (.call (.t 21) [] false)]
abbrev o12_8:=[xm 23 5,xd 24 .add 23 1,xm 5 24]
abbrev o12_9:=[xm 25 0,xo 26 (.call (.c (.clo 29 [])) [.t 25,(.c (.s [125]))] false),xo 27 (.un .not (.t 26)),xm 28 27,xt 28 29 (.mv (.t 0)),xt 28 30 (.call (.c (.clo 29 [])) [.t 29,(.c (.s [59]))] false),xt 28 31 (.un .not (.t 30)),xo 32 (.pick (.t 28) (.t 31) (.c (.b false)))]
abbrev o12_10:=[xm 33 0,xc 34 31 [.t 33,(xi 60)]]
def l12_0:ACode:=(.loop (.seq (.seq (xr [0,1,5,12] o12_3) (.cond (.t 12) .skip (.exit 0))) (.block 1 (.seq (.block 2 (.seq (xr [0,1,5,13] o12_4) (.cond (.t 13) (.exit 0) (.seq (xr [0,1,5,16] o12_5) (.cond (.t 16) (.seq (xr [0,1,5] o12_6) (.exit 1)) .skip))))) (.seq (xr [0,1,5] o12_7) (.seq (xr [0,1,5] o12_8) (.seq (xr [0,1,5,32] o12_9) (.cond (.t 32) (xr [0,1,5] o12_10) .skip))))))))
abbrev o12_11:=[xm 35 5,xm 4 35]
def a12:AFunc:=⟨(.seq (xr [0,1] o12_0) (.seq (xr [0,1] o12_1) (.seq (xr [0,1,5] o12_2) (.seq .skip (.seq (.block 0 l12_0) (.seq (xr [4] o12_11) .ret)))))),
  [(.t 4,none)],false⟩
abbrev o13_0:=[xl 2 0,xc 3 14 [.t 2,.t 1]]
def a13:AFunc:=⟨(xr [] o13_0),
  [],false⟩
abbrev o14_0:=[xm 16 0,xo 17 (.call (.c (.clo 29 [])) [.t 16,(.c (.s [100,97,116,97]))] false),xm 15 17]
abbrev o14_1:=[xm 18 0,xc 19 32 [.t 18],xa 4 [(.s []),.nsl,.nsl,(yi 0),(yi 0)],xs 5 4 19]
abbrev o14_2:=[xm 20 1,xm 21 1,xk 22 21,xf 23 0 22,xl 24 23,xe 25 5 4,xo 26 (.bsl (.st 5) [(.s []),.nsl,.nsl,(yi 0),(yi 0)] 1 [(0,5,(.t 25))]),xo 27 (.app (.st 5) (.t 24) (.t 26) false),xk 28 20,xf 29 0 28,xs 1 29 27]
abbrev o14_3:=[xm 31 0,xo 32 (.call (.c (.clo 29 [])) [.t 31,(.c (.s [105,110,102,105,120,108]))] false),xm 30 32]
abbrev o14_4:=[xm 33 0,xo 34 (.call (.c (.clo 29 [])) [.t 33,(.c (.s [105,110,102,105,120,114]))] false),xm 30 34]
abbrev o14_5:=[xm 35 0,xo 36 (.call (.c (.clo 29 [])) [.t 35,(.c (.s [105,110,102,105,120]))] false),xm 30 36]
abbrev o14_6:=[xm 37 0,xc 38 33 [.t 37],xa 5 [(.s []),(yi 0),(yi 0),(yi 0),(yi 0)],xs 5 5 38]
abbrev o14_7:=[xm 39 1,xm 40 1,xk 41 40,xf 42 1 41,xl 43 42,xe 44 5 5,xo 45 (.bsl (.st 5) [(.s []),(yi 0),(yi 0),(yi 0),(yi 0)] 1 [(0,5,(.t 44))]),xo 46 (.app (.st 5) (.t 43) (.t 45) false),xk 47 39,xf 48 1 47,xs 1 48 46]
abbrev o14_8:=[xm 6 1,xm 7 0,xm 8 1,xk 9 8,xf 10 2 9,xl 11 10,xc 12 34 [.t 7,.t 11],xk 13 6,xf 14 2 13,xs 1 14 12]
def a14:AFunc:=⟨(.block 0 (.seq (xr [0,1,15] o14_0) (.cond (.t 15) (.seq (xr [1,4] o14_1) (xr [] o14_2)) (.seq (.seq (xr [0,1,30] o14_3) (.cond (.t 30) .skip (.seq (xr [0,1,30] o14_4) (.cond (.t 30) .skip (xr [0,1,30] o14_5))))) (.cond (.t 30) (.seq (xr [1,5] o14_6) (xr [] o14_7)) (xr [] o14_8)))))),
  [],false⟩
abbrev o15_0:=[xa 4 [(yi 0),(.s []),(yi 0),(yi 0),(yi 0),(.b false)]]
abbrev o15_1:=[xm 5 0,xm 6 1,xc 7 29 [.t 5,.t 6],xo 8 (.un .not (.t 7))]
abbrev o15_2:=[xm 9 0,xc 10 31 [.t 9,(xi 60)]]
abbrev o15_3:=[xm 11 0,xc 12 30 [.t 11],xs 6 4 12]
def a15:AFunc:=⟨(.seq (xr [0,1,4] o15_0) (.seq (.seq (xr [0,4,8] o15_1) (.cond (.t 8) (xr [0,4] o15_2) .skip)) (.seq (xr [4] o15_3) .ret))),
  [(.t 4,some (.st 6))],false⟩
abbrev o16_0:=[xm 2 0,xk 3 2,xf 4 2 3,xl 5 4,xo 6 (.un .not (.t 5)),xm 7 6,xt 7 8 (.mv (.t 0)),xt 7 9 (.nck (.t 8)),xt 7 10 (.fad 1 (.t 9)),xt 7 11 (.load .one (.t 10)),xt 7 12 (.mv (.t 0)),xt 7 13 (.nck (.t 12)),xt 7 14 (.fad 0 (.t 13)),xt 7 15 (.load .one (.t 14)),xt 7 16 (.len false (.t 15)),xt 7 17 (.bin .lss (.t 11) (.t 16)),
 xo 18 (.pick (.t 7) (.t 17) (.c (.b false)))]
abbrev o16_1:=[xm 19 0,xc 20 31 [.t 19,(xi 60)]]
def a16:AFunc:=⟨(.seq (xr [0,18] o16_0) (.cond (.t 18) (xr [] o16_1) .skip)),
  [],false⟩
abbrev o17_0:=[xv 4 .nsl]
abbrev o17_1:=[xv 5 .nsl]
abbrev o17_2:=[xm 11 1,xn 12 11,xv 13 (yi 0)]
abbrev o17_3:=[xb 14 .lss 13 12]
abbrev o17_4:=[xo 15 (.iad (.st 4) (.t 11) (.t 13)),xe 16 4 15,xa 7 [(.s []),.nsl,(yi 0),(yi 0)],xs 4 7 16]
abbrev o17_5:=[xv 8 .nsl]
abbrev o17_6:=[xf 17 1 7,xl 18 17,xn 19 18,xv 20 (yi 0)]
abbrev o17_7:=[xb 21 .lss 20 19]
abbrev o17_8:=[xo 22 (.iad (.st 2) (.t 18) (.t 20)),xe 23 2 22,xa 10 [.nsl,.nsl],xs 2 10 23]
abbrev o17_9:=[xm 24 0,xf 25 1 10,xl 26 25,xc 27 35 [.t 24,.t 26],xf 28 1 10,xs 1 28 27]
abbrev o17_10:=[xm 29 8,xe 30 2 10,xo 31 (.bsl (.st 2) [.nsl,.nsl] 1 [(0,2,(.t 30))]),xo 32 (.app (.st 2) (.t 29) (.t 31) false),xm 8 32]
abbrev o17_11:=[xd 33 .add 20 1,xm 20 33]
def l17_0:ACode:=(.loop (.trn (.seq (xr [0,5,7,8,11,12,13,18,19,20,21] o17_7) (.seq (.cond (.t 21) .skip (.exit 2)) (.seq (.block 3 (.seq (xr [0,5,7,8,10,11,12,13,18,19,20] o17_8) (.seq (xr [0,5,7,8,10,11,12,13,18,19,20] o17_9) (xr [0,5,7,8,11,12,13,18,19,20] o17_10)))) (xr [0,5,7,8,11,12,13,18,19,20] o17_11))))))
abbrev o17_12:=[xm 34 8,xf 35 1 7,xs 1 35 34]
abbrev o17_13:=[xm 36 5,xe 37 4 7,xo 38 (.bsl (.st 4) [(.s []),.nsl,(yi 0),(yi 0)] 1 [(0,4,(.t 37))]),xo 39 (.app (.st 4) (.t 36) (.t 38) false),xm 5 39]
abbrev o17_14:=[xd 40 .add 13 1,xm 13 40]
def l17_1:ACode:=(.loop (.trn (.seq (xr [0,5,11,12,13,14] o17_3) (.seq (.cond (.t 14) .skip (.exit 0)) (.seq (.block 1 (.seq (xr [0,5,7,11,12,13] o17_4) (.seq (xr [0,5,7,8,11,12,13] o17_5) (.seq (.seq (xr [0,5,7,8,11,12,13,18,19,20] o17_6) (.block 2 l17_0)) (.seq (xr [0,5,7,11,12,13] o17_12) (xr [0,5,11,12,13] o17_13)))))) (xr [0,5,11,12,13] o17_14))))))
abbrev o17_15:=[xm 41 5,xm 4 41]
def a17:AFunc:=⟨(.seq (xr [0,1] o17_0) (.seq (xr [0,1,5] o17_1) (.seq (.seq (xr [0,5,11,12,13] o17_2) (.block 0 l17_1)) (.seq (xr [4] o17_15) .ret)))),
  [(.t 4,none)],true⟩
abbrev o18_0:=[xo 1 (.box (.t 0)),xv 2 (.b false)]
abbrev o18_1:=[xf 3 0 1,xl 4 3,xo 5 (.call (.c (.clo 36 [])) [.t 4,(.c (.clo 37 []))] false),xm 6 5,xt 6 7 (.fad 1 (.t 1)),xt 6 8 (.load .one (.t 7)),xt 6 9 (.call (.c (.clo 38 [])) [.t 8,(.c (.clo 39 []))] false),xo 10 (.pick (.t 6) (.t 9) (.c (.b false))),xm 11 10,xt 11 12 (.fad 2 (.t 1)),xt 11 13 (.load .one (.t 12)),
 xt 11 14 (.call (.c (.clo 40 [])) [.t 13] false),xo 15 (.pick (.t 11) (.t 14) (.c (.b false))),xm 2 15]
def a18:AFunc:=⟨(.seq (xr [1] o18_0) (.seq (xr [2] o18_1) .ret)),
  [(.t 2,none)],false⟩
abbrev o19_0:=[xv 2 .np,xa 3 [(yi 0),(yi 0),(yi 0)]]
abbrev o19_1:=[xc 13 41 [],xm 4 13]
abbrev o19_2:=[xm 14 0,xn 15 14,xv 16 (yi 0)]
abbrev o19_3:=[xb 17 .lss 16 15]
abbrev o19_4:=[xo 18 (.iad (.st 5) (.t 14) (.t 16)),xe 19 5 18,xa 6 [(.s []),.nsl,.nsl,(yi 0),(yi 0)],xs 5 6 19]
abbrev o19_5:=[xm 20 4,xe 21 5 6,xc 22 42 [.t 20,.t 21],xm 7 22]
abbrev o19_6:=[xm 23 7,xd 24 .neq 23 0]
abbrev o19_7:=[xm 25 7,xf 26 3 6,xe 27 2 26,xo 28 (.build [(yi 0),(yi 0),(yi 0)] [(0,1,(.t 25)),(1,2,(.t 27))]),xv 2 .np,xs 3 3 28]
abbrev o19_8:=[xd 29 .add 16 1,xm 16 29]
def l19_0:ACode:=(.loop (.trn (.seq (xr [0,3,4,14,15,16,17] o19_3) (.seq (.cond (.t 17) .skip (.exit 0)) (.seq (.block 1 (.seq (xr [0,3,4,6,14,15,16] o19_4) (.seq (xr [0,3,4,6,7,14,15,16] o19_5) (.seq (xr [0,3,4,6,7,14,15,16,24] o19_6) (.cond (.t 24) (.seq (xr [2,3] o19_7) .ret) .skip))))) (xr [0,3,4,14,15,16] o19_8))))))
abbrev o19_9:=[xm 30 0,xn 31 30,xv 32 (yi 0)]
abbrev o19_10:=[xb 33 .lss 32 31]
abbrev o19_11:=[xo 34 (.iad (.st 5) (.t 30) (.t 32)),xe 35 5 34,xa 9 [(.s []),.nsl,.nsl,(yi 0),(yi 0)],xs 5 9 35]
abbrev o19_12:=[xf 36 2 9,xl 37 36,xn 38 37,xv 39 (yi 0)]
abbrev o19_13:=[xb 40 .lss 39 38]
abbrev o19_14:=[xm 41 39,xo 42 (.iad (.st 4) (.t 37) (.t 39)),xe 43 4 42,xa 11 [(.s []),.nsl,(yi 0),(yi 0)],xm 10 41,xs 4 11 43]
abbrev o19_15:=[xm 44 4,xe 45 5 9,xm 46 10,xe 47 4 11,xc 48 43 [.t 44,.t 45,.t 46,.t 47],xm 12 48]
abbrev o19_16:=[xm 49 12,xd 50 .neq 49 0]
abbrev o19_17:=[xm 51 12,xf 52 2 11,xe 53 2 52,xo 54 (.build [(yi 0),(yi 0),(yi 0)] [(0,1,(.t 51)),(1,2,(.t 53))]),xv 2 .np,xs 3 3 54]
abbrev o19_18:=[xd 55 .add 39 1,xm 39 55]
def l19_1:ACode:=(.loop (.trn (.seq (xr [3,4,9,30,31,32,37,38,39,40] o19_13) (.seq (.cond (.t 40) .skip (.exit 4)) (.seq (.block 5 (.seq (xr [3,4,9,10,11,30,31,32,37,38,39] o19_14) (.seq (xr [3,4,9,11,12,30,31,32,37,38,39] o19_15) (.seq (xr [3,4,9,11,12,30,31,32,37,38,39,50] o19_16) (.cond (.t 50) (.seq (xr [2,3] o19_17) .ret) .skip))))) (xr [3,4,9,30,31,32,37,38,39] o19_18))))))
abbrev o19_19:=[xd 56 .add 32 1,xm 32 56]
def l19_2:ACode:=(.loop (.trn (.seq (xr [3,4,30,31,32,33] o19_10) (.seq (.cond (.t 33) .skip (.exit 2)) (.seq (.block 3 (.seq (xr [3,4,9,30,31,32] o19_11) (.seq (xr [3,4,9,30,31,32,37,38,39] o19_12) (.block 4 l19_1)))) (xr [3,4,30,31,32] o19_19))))))
abbrev o19_20:=[xm 57 4,xo 58 (.build [(yi 0),(yi 0),(yi 0)] []),xm 2 57,xs 3 3 58]
def a19:AFunc:=⟨(.seq (xr [0,3] o19_0) (.seq (xr [0,3,4] o19_1) (.seq (.seq (xr [0,3,4,14,15,16] o19_2) (.block 0 l19_0)) (.seq (.seq (xr [3,4,30,31,32] o19_9) (.block 2 l19_2)) (.seq (xr [2,3] o19_20) .ret))))),
  [(.t 2,none),(.t 3,some (.st 3))],false⟩
abbrev o20_0:=[xv 4 (.b false)]
abbrev o20_1:=[xm 7 0,xn 8 7,xv 9 (yi 0)]
abbrev o20_2:=[xb 10 .lss 9 8]
abbrev o20_3:=[xq 11 7 9,xl 12 11,xm 6 12]
abbrev o20_4:=[xm 13 6,xm 14 1,xb 15 .eql 13 14]
abbrev o20_5:=[xv 4 (.b true)]
abbrev o20_6:=[xd 16 .add 9 1,xm 9 16]
def l20_0:ACode:=(.loop (.seq (xr [1,7,8,9,10] o20_2) (.seq (.cond (.t 10) .skip (.exit 0)) (.seq (.block 1 (.seq (xr [1,6,7,8,9] o20_3) (.seq (xr [1,7,8,9,15] o20_4) (.cond (.t 15) (.seq (xr [4] o20_5) .ret) .skip)))) (xr [1,7,8,9] o20_6)))))
abbrev o20_7:=[xv 4 (.b false)]
def a20:AFunc:=⟨(.seq (xr [0,1] o20_0) (.seq (.seq (xr [1,7,8,9] o20_1) (.block 0 l20_0)) (.seq (xr [4] o20_7) .ret))),
  [(.t 4,none)],false⟩
abbrev o21_0:=[xo 5 (.box (.t 2))]
abbrev o21_1:=[xm 6 0,xk 7 6,xf 8 5 7,xl 9 8,xo 10 (.un .not (.t 9))]
abbrev o21_2:=[xm 11 0,xk 12 11,xf 13 5 12,⟨none,(.store 1 (.t 13) (.c (.b true)) false),none,[]⟩]
abbrev o21_3:=[xm 14 0,xm 15 1,xe 16 2 5,xo 17 (.build [(yi 0),(yi 0),(yi 0)] [(0,1,(.t 15)),(1,2,(.t 16))]),xk 18 14,xf 19 2 18,xs 3 19 17]
def a21:AFunc:=⟨(.seq (xr [0,1,5] o21_0) (.seq (xr [0,1,5,10] o21_1) (.cond (.t 10) (.seq (xr [0,1,5] o21_2) (xr [] o21_3)) .skip))),
  [],false⟩
abbrev o22_0:=[xo 3 (.box (.t 0)),xo 4 (.box (.t 1)),xo 5 (.box (.t 2))]
abbrev o22_1:=[xv 6 .nsl]
abbrev o22_2:=[xl 9 4,xn 10 9,xv 11 (yi 0)]
abbrev o22_3:=[xb 12 .lss 11 10]
abbrev o22_4:=[xo 13 (.iad (.st 4) (.t 9) (.t 11)),xe 14 4 13,xa 8 [(.s []),.nsl,(yi 0),(yi 0)],xs 4 8 14]
abbrev o22_5:=[xf 16 0 8,xl 17 16,xc 18 44 [.t 17],xd 19 .gtr 18 0,xm 15 19]
abbrev o22_6:=[xl 20 3,xf 21 2 8,xe 22 2 21,xc 23 21 [.t 20,(xi 90),.t 22]]
abbrev o22_7:=[xm 25 6,xf 26 0 8,xl 27 26,xc 28 20 [.t 25,.t 27],xm 24 28]
abbrev o22_8:=[xl 29 3,xf 30 2 8,xe 31 2 30,xc 32 21 [.t 29,(xi 80),.t 31]]
abbrev o22_9:=[xm 33 6,xf 34 0 8,xl 35 34,xo 36 (.bsl .one [(.s [])] 1 [(0,1,(.t 35))]),xo 37 (.app .one (.t 33) (.t 36) false),xm 6 37]
abbrev o22_10:=[xd 38 .add 11 1,xm 11 38]
def l22_0:ACode:=(.loop (.trn (.seq (xr [3,4,5,6,9,10,11,12] o22_3) (.seq (.cond (.t 12) .skip (.exit 0)) (.seq (.block 1 (.seq (xr [3,4,5,6,8,9,10,11] o22_4) (.seq (.block 2 (.seq (xr [3,4,5,6,8,9,10,11,15] o22_5) (.cond (.t 15) (xr [3,4,5,6,8,9,10,11] o22_6) (.seq (xr [3,4,5,6,8,9,10,11,24] o22_7) (.cond (.t 24) (xr [3,4,5,6,8,9,10,11] o22_8) .skip))))) (xr [3,4,5,6,9,10,11] o22_9)))) (xr [3,4,5,6,9,10,11] o22_10))))))
abbrev o22_11:=[xl 39 3,xm 40 6,xo 41 (.mkf 46 [.t 4,.t 3,.t 5]),xc 42 45 [.t 39,.t 40,.t 41]]
def a22:AFunc:=⟨(.seq (xr [3,4,5] o22_0) (.seq (xr [3,4,5,6] o22_1) (.seq (.seq (xr [3,4,5,6,9,10,11] o22_2) (.block 0 l22_0)) (xr [] o22_11)))),
  [],false⟩
def a23:AFunc:=⟨.skip,
  [],false⟩
abbrev o24_0:=[xv 4 (yi 0)]
abbrev o24_1:=[xm 6 0,xn 7 6,xv 8 (yi 0)]
abbrev o24_2:=[xb 9 .lss 8 7]
abbrev o24_3:=[xm 10 8,xm 5 10]
abbrev o24_4:=[xm 11 1,xm 12 0,xm 13 5,xq 14 12 13,xl 15 14,xb 16 .eql 11 15]
abbrev o24_5:=[xm 17 5,xm 4 17]
abbrev o24_6:=[xd 18 .add 8 1,xm 8 18]
def l24_0:ACode:=(.loop (.seq (xr [0,1,7,8,9] o24_2) (.seq (.cond (.t 9) .skip (.exit 0)) (.seq (.block 1 (.seq (xr [0,1,5,7,8] o24_3) (.seq (xr [0,1,5,7,8,16] o24_4) (.cond (.t 16) (.seq (xr [4] o24_5) .ret) .skip)))) (xr [0,1,7,8] o24_6)))))
abbrev o24_7:=[xv 4 (yi (-1))]
def a24:AFunc:=⟨(.seq (xr [0,1] o24_0) (.seq (.seq (xr [0,1,7,8] o24_1) (.block 0 l24_0)) (.seq (xr [4] o24_7) .ret))),
  [(.t 4,none)],false⟩
abbrev o25_0:=[xv 2 .nsl,xv 3 (yi 0)]
abbrev o25_1:=[xm 13 0,xc 14 48 [.t 13],xm 4 14]
abbrev o25_2:=[xm 15 4,xd 16 .neq 15 0]
abbrev o25_3:=[xm 17 4,xv 2 .nsl,xm 3 17]
abbrev o25_4:=[xm 19 0,xc 20 49 [.t 19],xm 18 20,xx 21 18 0,xx 22 18 1,xm 5 21,xm 6 22]
abbrev o25_5:=[xm 23 6,xo 24 (.msl .one [.nsl] (.t 23) (.t 23)),xm 7 24]
abbrev o25_6:=[xm 25 5,xn 26 25,xv 27 (yi 0)]
abbrev o25_7:=[xb 28 .lss 27 26]
abbrev o25_8:=[xm 29 27,xq 30 25 27,xl 31 30,xm 8 29,xm 9 31]
abbrev o25_9:=[xm 32 7,xm 33 9,xm 34 7,xm 35 9,xq 36 34 35,xl 37 36,xm 38 8,xo 39 (.bsl .one [(yi 0)] 1 [(0,1,(.t 38))]),xo 40 (.app .one (.t 37) (.t 39) false),xq 41 32 33,xs 1 41 40]
abbrev o25_10:=[xd 42 .add 27 1,xm 27 42]
def l25_0:ACode:=(.loop (.seq (xr [0,5,6,7,25,26,27,28] o25_7) (.seq (.cond (.t 28) .skip (.exit 0)) (.seq (.block 1 (.seq (xr [0,5,6,7,8,9,25,26,27] o25_8) (xr [0,5,6,7,25,26,27] o25_9))) (xr [0,5,6,7,25,26,27] o25_10)))))
abbrev o25_11:=[xm 43 6,xo 44 (.msl .one [(.b false)] (.t 43) (.t 43)),xm 10 44]
abbrev o25_12:=[xv 11 .nsl]
abbrev o25_13:=[xm 45 6,xv 46 (yi 0)]
abbrev o25_14:=[xb 47 .lss 46 45]
abbrev o25_15:=[xm 48 0,xm 49 5,xm 50 7,xm 51 10,xc 52 50 [.t 48,.t 49,.t 50,.t 51],xm 12 52]
abbrev o25_16:=[xm 53 10,xm 54 12,xq 55 53 54,⟨none,(.store 1 (.t 55) (.c (.b true)) false),none,[]⟩]
abbrev o25_17:=[xm 56 11,xm 57 7,xm 58 12,xq 59 57 58,xl 60 59,xo 61 (.bsl .one [.nsl] 1 [(0,1,(.t 60))]),xo 62 (.app .one (.t 56) (.t 61) false),xm 11 62]
abbrev o25_18:=[xd 63 .add 46 1,xm 46 63]
def l25_1:ACode:=(.loop (.seq (xr [0,5,7,10,11,45,46,47] o25_14) (.seq (.cond (.t 47) .skip (.exit 2)) (.seq (.block 3 (.seq (xr [0,5,7,10,11,12,45,46] o25_15) (.seq (xr [0,5,7,10,11,12,45,46] o25_16) (xr [0,5,7,10,11,45,46] o25_17)))) (xr [0,5,7,10,11,45,46] o25_18)))))
abbrev o25_19:=[xm 64 11,xm 2 64,xv 3 (yi 0)]
def a25:AFunc:=⟨(.seq (xr [0] o25_0) (.seq (.seq (xr [0,4] o25_1) (.seq (xr [0,4,16] o25_2) (.cond (.t 16) (.seq (xr [2,3] o25_3) .ret) .skip))) (.seq (xr [0,5,6] o25_4) (.seq (xr [0,5,6,7] o25_5) (.seq (.seq (xr [0,5,6,7,25,26,27] o25_6) (.block 0 l25_0)) (.seq (xr [0,5,6,7,10] o25_11) (.seq (xr [0,5,6,7,10,11] o25_12) (.seq (.seq (xr [0,5,7,10,11,45,46] o25_13) (.block 2 l25_1)) (.seq (xr [2,3] o25_19) .ret))))))))),
  [(.t 2,none),(.t 3,none)],true⟩
abbrev o26_0:=[xm 8 1,xn 9 8,xv 10 (yi 0)]
abbrev o26_1:=[xb 11 .lss 10 9]
abbrev o26_2:=[xo 12 (.iad (.st 4) (.t 8) (.t 10)),xe 13 4 12,xa 5 [(.s []),.nsl,(yi 0),(yi 0)],xs 4 5 13]
abbrev o26_3:=[xf 14 1 5,xl 15 14,xn 16 15,xv 17 (yi 0)]
abbrev o26_4:=[xb 18 .lss 17 16]
abbrev o26_5:=[xo 19 (.iad (.st 2) (.t 15) (.t 17)),xe 20 2 19,xa 7 [.nsl,.nsl],xs 2 7 20]
abbrev o26_6:=[xm 21 0,xf 22 0 7,xl 23 22,xf 24 1 7,xl 25 24,xc 26 51 [.t 21,.t 23,.t 25]]
abbrev o26_7:=[xd 27 .add 17 1,xm 17 27]
def l26_0:ACode:=(.loop (.trn (.seq (xr [0,8,9,10,15,16,17,18] o26_4) (.seq (.cond (.t 18) .skip (.exit 2)) (.seq (.block 3 (.seq (xr [0,7,8,9,10,15,16,17] o26_5) (xr [0,8,9,10,15,16,17] o26_6))) (xr [0,8,9,10,15,16,17] o26_7))))))
abbrev o26_8:=[xd 28 .add 10 1,xm 10 28]
def l26_1:ACode:=(.loop (.trn (.seq (xr [0,8,9,10,11] o26_1) (.seq (.cond (.t 11) .skip (.exit 0)) (.seq (.block 1 (.seq (xr [0,5,8,9,10] o26_2) (.seq (xr [0,8,9,10,15,16,17] o26_3) (.block 2 l26_0)))) (xr [0,8,9,10] o26_8))))))
def a26:AFunc:=⟨(.seq (xr [0,8,9,10] o26_0) (.block 0 l26_1)),
  [],false⟩
abbrev o27_0:=[xv 2 .nsl,xa 3 [(yi 0),(yi 0),(yi 0)]]
abbrev o27_1:=[xo 10 (.build [(yi 0),(yi 0)] [(0,1,(xi 1)),(1,1,(xi 1))]),xa 4 [(yi 0),(yi 0)],xs 2 4 10]
abbrev o27_2:=[xm 11 0,xo 12 (.len true (.t 11)),xd 13 .gtr 12 8192]
abbrev o27_3:=[xe 14 2 4,xo 15 (.build [(yi 0),(yi 0),(yi 0)] [(0,1,(xi 2)),(1,2,(.t 14))]),xv 2 .nsl,xs 3 3 15]
abbrev o27_4:=[xm 16 0,xe 17 2 4,xo 18 (.build [(.s []),(yi 0),(yi 0),(yi 0)] [(0,1,(.t 16)),(2,2,(.t 17))]),xo 19 (.box (.t 18)),xm 5 19]
abbrev o27_5:=[xv 6 .nsl]
abbrev o27_6:=[xm 20 5,xc 21 52 [.t 20]]
abbrev o27_7:=[xm 22 5,xk 23 22,xf 24 2 23,xe 25 2 24,xa 7 [(yi 0),(yi 0)],xs 2 7 25]
abbrev o27_8:=[xm 27 5,xc 28 53 [.t 27],xm 26 28,xx 29 26 0,xx 30 26 1,xa 8 [(yi 0),(.s []),(yi 0),(yi 0),(yi 0),(.b false)],xs 6 8 29,xm 9 30]
abbrev o27_9:=[xm 31 9,xd 32 .eql 31 0,xm 33 32,xt 33 34 (.mv (.t 6)),xt 33 35 (.len false (.t 34)),xt 33 36 (.bin .geq (.t 35) (xi 2048)),xo 37 (.pick (.t 33) (.t 36) (.c (.b false)))]
abbrev o27_10:=[xv 9 (yi 2)]
abbrev o27_11:=[xm 38 9,xd 39 .neq 38 0]
abbrev o27_12:=[xm 40 9,xe 41 2 7,xo 42 (.build [(yi 0),(yi 0),(yi 0)] [(0,1,(.t 40)),(1,2,(.t 41))]),xv 2 .nsl,xs 3 3 42]
abbrev o27_13:=[xm 43 6,xe 44 6 8,xo 45 (.bsl (.st 6) [(yi 0),(.s []),(yi 0),(yi 0),(yi 0),(.b false)] 1 [(0,6,(.t 44))]),xo 46 (.app (.st 6) (.t 43) (.t 45) false),xm 6 46]
def l27_0:ACode:=(.loop (.trn (.seq (.seq (xr [3,5,6,21] o27_6) (.cond (.t 21) .skip (.exit 0))) (.block 1 (.seq (xr [3,5,6,7] o27_7) (.seq (xr [3,5,6,7,8,9] o27_8) (.seq (.seq (xr [3,5,6,7,8,9,37] o27_9) (.cond (.t 37) (xr [3,5,6,7,8,9] o27_10) .skip)) (.seq (.seq (xr [3,5,6,7,8,9,39] o27_11) (.cond (.t 39) (.seq (xr [2,3] o27_12) .ret) .skip)) (xr [3,5,6] o27_13)))))))))
abbrev o27_14:=[xm 47 6,xo 48 (.build [(yi 0),(yi 0),(yi 0)] []),xm 2 47,xs 3 3 48]
def a27:AFunc:=⟨(.seq (xr [0,3] o27_0) (.seq (xr [0,3,4] o27_1) (.seq (.seq (xr [0,3,4,13] o27_2) (.cond (.t 13) (.seq (xr [2,3] o27_3) .ret) .skip)) (.seq (xr [3,5] o27_4) (.seq (xr [3,5,6] o27_5) (.seq (.block 0 l27_0) (.seq (xr [2,3] o27_14) .ret))))))),
  [(.t 2,none),(.t 3,some (.st 3))],true⟩
abbrev o28_0:=[xv 2 .nsl]
abbrev o28_1:=[xo 9 (.build [(yi 0),(yi 0)] [(0,1,(xi 1)),(1,1,(xi 1))]),xo 10 (.build [.nsl,.nsl,(.b false),(yi 0),(yi 0)] [(2,1,(.c (.b true))),(3,2,(.t 9))]),xo 11 (.box (.t 10)),xm 3 11]
abbrev o28_2:=[xv 4 (yi 0)]
abbrev o28_3:=[xm 12 0,xn 13 12,xv 14 (yi 0)]
abbrev o28_4:=[xb 15 .lss 14 13]
abbrev o28_5:=[xm 16 14,xo 17 (.iad (.st 6) (.t 12) (.t 14)),xe 18 6 17,xa 6 [(yi 0),(.s []),(yi 0),(yi 0),(yi 0),(.b false)],xm 5 16,xs 6 6 18]
abbrev o28_6:=[xm 19 3,xf 20 3 6,xe 21 2 20,xk 22 19,xf 23 3 22,xs 2 23 21]
abbrev o28_7:=[xm 24 5,xd 25 .eql 24 0,xm 26 25,xu 26 27 (.fad 3 (.t 6)),xu 26 28 (.fad 0 (.t 27)),xu 26 29 (.load .one (.t 28)),xu 26 30 (.mv (.t 4)),xu 26 31 (.bin .neq (.t 29) (.t 30)),xo 32 (.pick (.t 26) (.c (.b true)) (.t 31)),xm 7 32]
abbrev o28_8:=[xf 33 3 6,xf 34 0 33,xl 35 34,xm 4 35]
abbrev o28_9:=[xm 36 3,xk 37 36,xf 38 2 37,xl 39 38,xm 40 39,xt 40 41 (.mv (.t 3)),xt 40 42 (.load (.st 6) (.t 6)),xt 40 43 (.call (.c (.clo 54 [])) [.t 41,.t 42] false),xo 44 (.pick (.t 40) (.t 43) (.c (.b false)))]
abbrev o28_10:=[xv 7 (.b false)]
abbrev o28_11:=[xm 45 7]
abbrev o28_12:=[xm 46 3,xe 47 6 6,xc 48 55 [.t 46,.t 47]]
abbrev o28_13:=[xm 49 3,xe 50 6 6,xc 51 56 [.t 49,.t 50]]
abbrev o28_14:=[xm 52 3,xm 53 3,xk 54 53,xf 55 0 54,xl 56 55,xe 57 6 6,xo 58 (.bsl (.st 6) [(yi 0),(.s []),(yi 0),(yi 0),(yi 0),(.b false)] 1 [(0,6,(.t 57))]),xo 59 (.app (.st 6) (.t 56) (.t 58) false),xk 60 52,xf 61 0 60,xs 1 61 59]
abbrev o28_15:=[xm 62 3,xe 63 6 6,xc 64 57 [.t 62,.t 63]]
abbrev o28_16:=[xd 65 .add 14 1,xm 14 65]
def l28_0:ACode:=(.loop (.trn (.seq (xr [3,4,12,13,14,15] o28_4) (.seq (.cond (.t 15) .skip (.exit 0)) (.seq (.block 1 (.seq (xr [3,4,5,6,12,13,14] o28_5) (.seq (xr [3,4,5,6,12,13,14] o28_6) (.seq (xr [3,6,7,12,13,14] o28_7) (.seq (xr [3,4,6,7,12,13,14] o28_8) (.seq (.seq (xr [3,4,6,7,12,13,14,44] o28_9) (.cond (.t 44) (xr [3,4,6,7,12,13,14] o28_10) .skip)) (.seq (.seq (xr [3,4,6,12,13,14,45] o28_11) (.cond (.t 45) (xr [3,4,6,12,13,14] o28_12) .skip)) (.seq (xr [3,4,6,12,13,14] o28_13) (.seq (xr [3,4,6,12,13,14] o28_14) (xr [3,4,12,13,14] o28_15)))))))))) (xr [3,4,12,13,14] o28_16))))))
abbrev o28_17:=[xm 66 3,xk 67 66,xf 68 2 67,xl 69 68]
abbrev o28_18:=[xm 70 3,xo 71 (.call (.c (.clo 58 [])) [.t 70,(.c (.s [123]))] false)]
abbrev o28_19:=[xm 72 3,xo 73 (.call (.c (.clo 58 [])) [.t 72,(.c (.s [125]))] false)]
abbrev o28_20:=[xm 74 3,xk 75 74,xf 76 1 75,xl 77 76,xn 78 77,xd 79 .sub 78 1,xm 8 79]
abbrev o28_21:=[xm 80 8,xd 81 .geq 80 0]
abbrev o28_22:=[xm 84 3,xk 85 84,xf 86 1 85,xl 87 86,xm 88 8,xo 89 (.iad (.st 2) (.t 87) (.t 88)),xf 90 0 89,xl 91 90,xd 92 .eql 91 0]
abbrev o28_23:=[xm 93 3,xo 94 (.call (.c (.clo 58 [])) [.t 93,(.c (.s [125]))] false)]
abbrev o28_24:=[xm 82 8,xd 83 .sub 82 1,xm 8 83]
def l28_1:ACode:=(.loop (.seq (.seq (xr [3,8,81] o28_21) (.cond (.t 81) .skip (.exit 2))) (.seq (.block 3 (.seq (xr [3,8,92] o28_22) (.cond (.t 92) (xr [3,8] o28_23) .skip))) (xr [3,8] o28_24))))
abbrev o28_25:=[xm 95 3,xk 96 95,xf 97 0 96,xl 98 97,xm 2 98]
def a28:AFunc:=⟨(.seq (xr [0] o28_0) (.seq (xr [0,3] o28_1) (.seq (xr [0,3,4] o28_2) (.seq (.seq (xr [3,4,12,13,14] o28_3) (.block 0 l28_0)) (.seq (.seq (xr [3,69] o28_17) (.cond (.t 69) (.seq (xr [3] o28_18) (xr [3] o28_19)) .skip)) (.seq (.seq (xr [3,8] o28_20) (.block 2 l28_1)) (.seq (xr [2] o28_25) .ret))))))),
  [(.t 2,none)],true⟩
abbrev o29_0:=[xv 4 (.b false)]
abbrev o29_1:=[xm 6 0,xc 7 59 [.t 6],xa 5 [(yi 0),(.s []),(yi 0),(yi 0),(yi 0),(.b false)],xs 6 5 7]
abbrev o29_2:=[xf 8 0 5,xl 9 8,xd 10 .eql 9 5,xm 11 10,xu 11 12 (.fad 0 (.t 5)),xu 11 13 (.load .one (.t 12)),xu 11 14 (.bin .eql (.t 13) (xi 6)),xo 15 (.pick (.t 11) (.c (.b true)) (.t 14)),xm 16 15,xt 16 17 (.fad 1 (.t 5)),xt 16 18 (.load .one (.t 17)),xt 16 19 (.mv (.t 1)),xt 16 20 (.bin .eql (.t 18) (.t 19)),xo 21 (.pick (.t 16) (.t 20) (.c (.b false))),xm 4 21]
def a29:AFunc:=⟨(.seq (xr [0,1] o29_0) (.seq (xr [1,5] o29_1) (.seq (xr [4] o29_2) .ret))),
  [(.t 4,none)],false⟩
abbrev o30_0:=[xa 2 [(yi 0),(.s []),(yi 0),(yi 0),(yi 0),(.b false)]]
abbrev o30_1:=[xm 4 0,xc 5 59 [.t 4],xa 3 [(yi 0),(.s []),(yi 0),(yi 0),(yi 0),(.b false)],xs 6 3 5]
abbrev o30_2:=[xm 6 0,xk 7 6,xf 8 2 7,xl 9 8,xo 10 (.un .not (.t 9)),xm 11 10,xt 11 12 (.mv (.t 0)),xt 11 13 (.nck (.t 12)),xt 11 14 (.fad 1 (.t 13)),xt 11 15 (.load .one (.t 14)),xt 11 16 (.mv (.t 0)),xt 11 17 (.nck (.t 16)),xt 11 18 (.fad 0 (.t 17)),xt 11 19 (.load .one (.t 18)),xt 11 20 (.len false (.t 19)),xt 11 21 (.bin .lss (.t 15) (.t 20)),
 xo 22 (.pick (.t 11) (.t 21) (.c (.b false)))]
abbrev o30_3:=[xm 23 0,xk 24 23,xf 25 1 24,xl 26 25,xd 27 .add 26 1,xk 28 23,xf 29 1 28,xs 1 29 27]
abbrev o30_4:=[xe 30 6 3,xs 6 2 30]
def a30:AFunc:=⟨(.seq (xr [0,2] o30_0) (.seq (xr [0,2,3] o30_1) (.seq (.seq (xr [0,2,3,22] o30_2) (.cond (.t 22) (xr [2,3] o30_3) .skip)) (.seq (xr [2] o30_4) .ret)))),
  [(.t 2,some (.st 6))],false⟩
abbrev o31_0:=[xm 6 0,xk 7 6,xf 8 2 7,xl 9 8]
abbrev o31_1:=[xo 10 (.build [(yi 0),(yi 0)] [(0,1,(xi 1)),(1,1,(xi 1))]),xa 4 [(yi 0),(yi 0)],xs 2 4 10]
abbrev o31_2:=[xm 11 0,xk 12 11,xf 13 0 12,xl 14 13,xn 15 14,xm 5 15]
abbrev o31_3:=[xm 16 5,xd 17 .gtr 16 0]
abbrev o31_4:=[xm 18 0,xk 19 18,xf 20 0 19,xl 21 20,xm 22 0,xk 23 22,xf 24 1 23,xl 25 24,xm 26 5,xd 27 .sub 26 1,xo 28 (.min (.t 25) (.t 27)),xo 29 (.iad (.st 6) (.t 21) (.t 28)),xf 30 3 29,xe 31 2 30,xs 2 4 31]
abbrev o31_5:=[xm 32 0,xk 33 32,xf 34 2 33,⟨none,(.store 1 (.t 34) (.c (.b true)) false),none,[]⟩]
abbrev o31_6:=[xm 35 0,xm 36 1,xe 37 2 4,xo 38 (.build [(yi 0),(yi 0),(yi 0)] [(0,1,(.t 36)),(1,2,(.t 37))]),xk 39 35,xf 40 3 39,xs 3 40 38]
def a31:AFunc:=⟨(.seq (.seq (xr [0,1,9] o31_0) (.cond (.t 9) .ret .skip)) (.seq (xr [0,1,4] o31_1) (.seq (.seq (xr [0,1,4,5] o31_2) (.seq (xr [0,1,4,5,17] o31_3) (.cond (.t 17) (xr [0,1,4] o31_4) .skip))) (.seq (xr [0,1,4] o31_5) (xr [] o31_6))))),
  [],false⟩
abbrev o32_0:=[xa 2 [(.s []),.nsl,.nsl,(yi 0),(yi 0)]]
abbrev o32_1:=[xm 5 0,xc 6 30 [.t 5]]
abbrev o32_2:=[xm 7 0,xc 8 60 [.t 7,(xi 2)],xa 3 [(yi 0),(.s []),(yi 0),(yi 0),(yi 0),(.b false)],xs 6 3 8]
abbrev o32_3:=[xf 9 1 3,xl 10 9,xf 11 3 3,xe 12 2 11,xo 13 (.build [(.s []),.nsl,.nsl,(yi 0),(yi 0)] [(0,1,(.t 10)),(3,2,(.t 12))]),xa 4 [(.s []),.nsl,.nsl,(yi 0),(yi 0)],xs 5 4 13]
abbrev o32_4:=[xm 14 0,xc 15 61 [.t 14,(xi 1)]]
abbrev o32_5:=[xf 16 1 4,xl 17 16,xm 18 0,⟨some 19,(.call (.c (.clo 30 [])) [.t 18] false),none,[(17,none,(.load .one (.t 16)))]⟩,xo 20 (.fld 1 .one (.t 19)),xo 21 (.bsl .one [(.s [])] 1 [(0,1,(.t 20))]),xo 22 (.app .one (.t 17) (.t 21) false),xf 23 1 4,xs 1 23 22]
def l32_0:ACode:=(.loop (.seq (.seq (xr [0,2,4,15] o32_4) (.cond (.t 15) .skip (.exit 0))) (.block 1 (xr [0,2,4] o32_5))))
abbrev o32_6:=[xm 24 0,xo 25 (.call (.c (.clo 15 [])) [.t 24,(.c (.s [61]))] false)]
abbrev o32_7:=[xf 26 2 4,xl 27 26,xm 28 0,⟨some 29,(.call (.c (.clo 62 [])) [.t 28] false),none,[(27,none,(.load .one (.t 26)))]⟩,xo 30 (.bsl (.st 4) [(.s []),.nsl,(yi 0),(yi 0)] 1 [(0,4,(.t 29))]),xo 31 (.app (.st 4) (.t 27) (.t 30) false),xf 32 2 4,xs 1 32 31]
abbrev o32_8:=[xm 33 0,xo 34 (.call (.c (.clo 29 [])) [.t 33,(.c (.s [124]))] false)]
abbrev o32_9:=[xm 35 0,xc 36 30 [.t 35]]
abbrev o32_10:=[xf 37 2 4,xl 38 37,xm 39 0,⟨some 40,(.call (.c (.clo 62 [])) [.t 39] false),none,[(38,none,(.load .one (.t 37)))]⟩,xo 41 (.bsl (.st 4) [(.s []),.nsl,(yi 0),(yi 0)] 1 [(0,4,(.t 40))]),xo 42 (.app (.st 4) (.t 38) (.t 41) false),xf 43 2 4,xs 1 43 42]
def l32_1:ACode:=(.loop (.seq (.seq (xr [0,2,4,34] o32_8) (.cond (.t 34) .skip (.exit 2))) (.block 3 (.seq (xr [0,2,4] o32_9) (xr [0,2,4] o32_10)))))
abbrev o32_11:=[xe 44 5 4,xs 5 2 44]
def a32:AFunc:=⟨(.seq (xr [0,2] o32_0) (.seq (xr [0,2] o32_1) (.seq (xr [0,2,3] o32_2) (.seq (xr [0,2,4] o32_3) (.seq (.block 0 l32_0) (.seq (xr [0,2,4] o32_6) (.seq (xr [0,2,4] o32_7) (.seq (.block 2 l32_1) (.seq (xr [2] o32_11) .ret))))))))),
  [(.t 2,some (.st 5))],true⟩
abbrev o33_0:=[xa 2 [(.s []),(yi 0),(yi 0),(yi 0),(yi 0)]]
abbrev o33_1:=[xo 6 (.build [(.s []),(yi 0),(yi 0),(yi 0),(yi 0)] [(1,1,(xi 0))]),xa 3 [(.s []),(yi 0),(yi 0),(yi 0),(yi 0)],xs 5 3 6]
abbrev o33_2:=[xm 7 0,xc 8 30 [.t 7],xo 9 (.fld 1 .one (.t 8))]
abbrev o33_3:=[xo 11 (.bin .eql (.t 9) (.c (.s [105,110,102,105,120,108]))),xm 10 11]
abbrev o33_4:=[xf 12 1 3,⟨none,(.store 1 (.t 12) (xi 1) false),none,[]⟩]
abbrev o33_5:=[xo 14 (.bin .eql (.t 9) (.c (.s [105,110,102,105,120,114]))),xm 13 14]
abbrev o33_6:=[xf 15 1 3,⟨none,(.store 1 (.t 15) (xi 2) false),none,[]⟩]
abbrev o33_7:=[xm 16 0,xc 17 59 [.t 16],xa 4 [(yi 0),(.s []),(yi 0),(yi 0),(yi 0),(.b false)],xs 6 4 17]
abbrev o33_8:=[xf 18 0 4,xl 19 18,xd 20 .eql 19 4,xm 21 20,xt 21 22 (.fad 2 (.t 4)),xt 21 23 (.load .one (.t 22)),xt 21 24 (.bin .lss (.t 23) (xi 0)),xt 21 25 (.mv (.t 24)),xu 25 26 (.fad 2 (.t 4)),xu 25 27 (.load .one (.t 26)),xu 25 28 (.bin .gtr (.t 27) (xi 9)),xt 21 29 (.pick (.t 25) (.c (.b true)) (.t 28)),xo 30 (.pick (.t 21) (.t 29) (.c (.b false)))]
abbrev o33_9:=[xm 31 0,xc 32 31 [.t 31,(xi 60)]]
abbrev o33_10:=[xm 33 0,xc 34 60 [.t 33,(xi 4)],xo 35 (.fld 2 .one (.t 34)),xf 36 2 3,xs 1 36 35]
abbrev o33_11:=[xm 37 0,xc 38 60 [.t 37,(xi 3)],xa 5 [(yi 0),(.s []),(yi 0),(yi 0),(yi 0),(.b false)],xs 6 5 38]
abbrev o33_12:=[xf 39 1 5,xl 40 39,xf 41 3 5,xe 42 2 41,xf 43 0 3,⟨none,(.store 1 (.t 43) (.t 40) false),none,[(42,none,(.load (.st 2) (.t 41)))]⟩,xf 44 3 3,xs 2 44 42]
abbrev o33_13:=[xe 45 5 3,xs 5 2 45]
def a33:AFunc:=⟨(.seq (xr [0,2] o33_0) (.seq (xr [0,2,3] o33_1) (.seq (.seq (xr [0,2,3,9] o33_2) (.block 0 (.seq (xr [0,2,3,9,10] o33_3) (.cond (.t 10) (xr [0,2,3] o33_4) (.seq (xr [0,2,3,13] o33_5) (.cond (.t 13) (xr [0,2,3] o33_6) .skip)))))) (.seq (.seq (xr [0,2,3,4] o33_7) (.seq (xr [0,2,3,30] o33_8) (.cond (.t 30) (xr [0,2,3] o33_9) .skip))) (.seq (xr [0,2,3] o33_10) (.seq (xr [2,3,5] o33_11) (.seq (xr [2,3] o33_12) (.seq (xr [2] o33_13) .ret)))))))),
  [(.t 2,some (.st 5))],false⟩
abbrev o34_0:=[xv 4 .nsl]
abbrev o34_1:=[xo 8 (.build [(yi 0),(.s []),(yi 0),(yi 0),(yi 0),(.b false)] []),xa 5 [(yi 0),(.s []),(yi 0),(yi 0),(yi 0),(.b false)],xs 6 5 8]
abbrev o34_2:=[xm 9 0,xo 10 (.call (.c (.clo 29 [])) [.t 9,(.c (.s [40]))] false)]
abbrev o34_3:=[xm 11 0,xc 12 30 [.t 11]]
abbrev o34_4:=[xm 13 0,xc 14 60 [.t 13,(xi 3)],xs 6 5 14]
abbrev o34_5:=[xm 15 0,xo 16 (.call (.c (.clo 15 [])) [.t 15,(.c (.s [41]))] false)]
abbrev o34_6:=[xm 17 0,xc 18 60 [.t 17,(xi 1)],xs 6 5 18]
abbrev o34_7:=[xo 19 (.build [.nsl,.nsl] []),xa 6 [.nsl,.nsl],xs 2 6 19]
abbrev o34_8:=[xm 20 0,xc 21 63 [.t 20]]
abbrev o34_9:=[xf 22 0 6,xl 23 22,xm 24 0,⟨some 25,(.call (.c (.clo 64 [])) [.t 24] false),none,[(23,none,(.load .one (.t 22)))]⟩,xo 26 (.bsl (.st 6) [(yi 0),(.s []),(yi 0),.nsl,(yi 0),(yi 0)] 1 [(0,6,(.t 25))]),xo 27 (.app (.st 6) (.t 23) (.t 26) false),xf 28 0 6,xs 1 28 27]
def l34_0:ACode:=(.loop (.seq (.seq (xr [0,1,5,6,21] o34_8) (.cond (.t 21) .skip (.exit 0))) (.block 1 (xr [0,1,5,6] o34_9))))
abbrev o34_10:=[xm 29 0,xo 30 (.call (.c (.clo 65 [])) [.t 29,(.c (.s [61]))] false),xf 31 1 6,xs 1 31 30]
abbrev o34_11:=[xm 32 1,xn 33 32,xm 7 33]
abbrev o34_12:=[xm 34 7,xd 35 .gtr 34 0,xm 36 35,xt 36 37 (.mv (.t 1)),xt 36 38 (.mv (.t 7)),xt 36 39 (.bin .sub (.t 38) (xi 1)),xt 36 40 (.iad (.st 4) (.t 37) (.t 39)),xt 36 41 (.fad 0 (.t 40)),xt 36 42 (.load .one (.t 41)),xt 36 43 (.fad 1 (.t 5)),xt 36 44 (.load .one (.t 43)),xt 36 45 (.bin .eql (.t 42) (.t 44)),xo 46 (.pick (.t 36) (.t 45) (.c (.b false)))]
abbrev o34_13:=[xm 47 1,xm 48 7,xd 49 .sub 48 1,xm 50 1,xm 51 7,xd 52 .sub 51 1,xo 53 (.iad (.st 4) (.t 50) (.t 52)),xf 54 1 53,xl 55 54,xe 56 2 6,xo 57 (.bsl (.st 2) [.nsl,.nsl] 1 [(0,2,(.t 56))]),xo 58 (.app (.st 2) (.t 55) (.t 57) false),xo 59 (.iad (.st 4) (.t 47) (.t 49)),xf 60 1 59,xs 1 60 58]
abbrev o34_14:=[xm 61 1,xm 4 61]
abbrev o34_15:=[xm 62 1,xf 63 1 5,xl 64 63,xe 65 2 6,xo 66 (.bsl (.st 2) [.nsl,.nsl] 1 [(0,2,(.t 65))]),xf 67 3 5,xe 68 2 67,xo 69 (.build [(.s []),.nsl,(yi 0),(yi 0)] [(0,1,(.t 64)),(1,1,(.t 66)),(2,2,(.t 68))]),xo 70 (.bsl (.st 4) [(.s []),.nsl,(yi 0),(yi 0)] 1 [(0,4,(.t 69))]),xo 71 (.app (.st 4) (.t 62) (.t 70) false),xm 4 71]
def a34:AFunc:=⟨(.seq (xr [0,1] o34_0) (.seq (xr [0,1,5] o34_1) (.seq (.seq (xr [0,1,5,10] o34_2) (.cond (.t 10) (.seq (xr [0,1,5] o34_3) (.seq (xr [0,1,5] o34_4) (xr [0,1,5] o34_5))) (xr [0,1,5] o34_6))) (.seq (xr [0,1,5,6] o34_7) (.seq (.block 0 l34_0) (.seq (xr [1,5,6] o34_10) (.seq (.seq (xr [1,5,6,7] o34_11) (.seq (xr [1,5,6,7,46] o34_12) (.cond (.t 46) (.seq (xr [1] o34_13) (.seq (xr [4] o34_14) .ret)) .skip))) (.seq (xr [4] o34_15) .ret)))))))),
  [(.t 4,none)],false⟩
abbrev o35_0:=[xv 4 .nsl]
abbrev o35_1:=[xv 5 .nsl]
abbrev o35_2:=[xm 11 1,xn 12 11,xv 13 (yi 0)]
abbrev o35_3:=[xb 14 .lss 13 12]
abbrev o35_4:=[xo 15 (.iad (.st 10) (.t 11) (.t 13)),xe 16 10 15,xa 7 [.nsl,(yi 0),(.s []),(yi 0),.nsl,.nsl,.nsl,.nsl,(yi 0),(yi 0)],xs 10 7 16]
abbrev o35_5:=[xv 8 .nsl]
abbrev o35_6:=[xf 17 0 7,xl 18 17,xn 19 18,xv 20 (yi 0)]
abbrev o35_7:=[xb 21 .lss 20 19]
abbrev o35_8:=[xo 22 (.iad (.st 9) (.t 18) (.t 20)),xe 23 9 22,xa 10 [(yi 0),(.s []),(yi 0),.nsl,.nsl,.nsl,.nsl,(yi 0),(yi 0)],xs 9 10 23]
abbrev o35_9:=[xm 24 8,xm 25 0,xe 26 9 10,xc 27 66 [.t 25,.t 26],xo 28 (.bsl (.st 9) [(yi 0),(.s []),(yi 0),.nsl,.nsl,.nsl,.nsl,(yi 0),(yi 0)] 1 [(0,9,(.t 27))]),xo 29 (.app (.st 9) (.t 24) (.t 28) false),xm 8 29]
abbrev o35_10:=[xd 30 .add 20 1,xm 20 30]
def l35_0:ACode:=(.loop (.trn (.seq (xr [0,5,7,8,11,12,13,18,19,20,21] o35_7) (.seq (.cond (.t 21) .skip (.exit 2)) (.seq (.block 3 (.seq (xr [0,5,7,8,10,11,12,13,18,19,20] o35_8) (xr [0,5,7,8,11,12,13,18,19,20] o35_9))) (xr [0,5,7,8,11,12,13,18,19,20] o35_10))))))
abbrev o35_11:=[xm 31 8,xf 32 0 7,xs 1 32 31]
abbrev o35_12:=[xm 33 0,xf 34 1 7,xe 35 9 34,xc 36 66 [.t 33,.t 35],xf 37 1 7,xs 9 37 36]
abbrev o35_13:=[xm 38 5,xe 39 10 7,xo 40 (.bsl (.st 10) [.nsl,(yi 0),(.s []),(yi 0),.nsl,.nsl,.nsl,.nsl,(yi 0),(yi 0)] 1 [(0,10,(.t 39))]),xo 41 (.app (.st 10) (.t 38) (.t 40) false),xm 5 41]
abbrev o35_14:=[xd 42 .add 13 1,xm 13 42]
def l35_1:ACode:=(.loop (.trn (.seq (xr [0,5,11,12,13,14] o35_3) (.seq (.cond (.t 14) .skip (.exit 0)) (.seq (.block 1 (.seq (xr [0,5,7,11,12,13] o35_4) (.seq (xr [0,5,7,8,11,12,13] o35_5) (.seq (.seq (xr [0,5,7,8,11,12,13,18,19,20] o35_6) (.block 2 l35_0)) (.seq (xr [0,5,7,11,12,13] o35_11) (.seq (xr [0,5,7,11,12,13] o35_12) (xr [0,5,11,12,13] o35_13))))))) (xr [0,5,11,12,13] o35_14))))))
abbrev o35_15:=[xm 43 5,xm 4 43]
def a35:AFunc:=⟨(.seq (xr [0,1] o35_0) (.seq (xr [0,1,5] o35_1) (.seq (.seq (xr [0,5,11,12,13] o35_2) (.block 0 l35_1)) (.seq (xr [4] o35_15) .ret)))),
  [(.t 4,none)],true⟩
abbrev o36_0:=[xv 4 (.b false)]
abbrev o36_1:=[xm 7 0,xn 8 7,xv 9 (yi 0)]
abbrev o36_2:=[xb 10 .lss 9 8]
abbrev o36_3:=[xo 11 (.iad (.st 5) (.t 7) (.t 9)),xe 12 5 11,xa 6 [(.s []),.nsl,.nsl,(yi 0),(yi 0)],xs 5 6 12]
abbrev o36_4:=[xm 13 1,xe 14 5 6,xo 15 (.call (.t 13) [.t 14] false),xo 16 (.un .not (.t 15))]
abbrev o36_5:=[xv 4 (.b false)]
abbrev o36_6:=[xd 17 .add 9 1,xm 9 17]
def l36_0:ACode:=(.loop (.trn (.seq (xr [1,7,8,9,10] o36_2) (.seq (.cond (.t 10) .skip (.exit 0)) (.seq (.block 1 (.seq (xr [1,6,7,8,9] o36_3) (.seq (xr [1,7,8,9,16] o36_4) (.cond (.t 16) (.seq (xr [4] o36_5) .ret) .skip)))) (xr [1,7,8,9] o36_6))))))
abbrev o36_7:=[xv 4 (.b true)]
def a36:AFunc:=⟨(.seq (xr [0,1] o36_0) (.seq (.seq (xr [1,7,8,9] o36_1) (.block 0 l36_0)) (.seq (xr [4] o36_7) .ret))),
  [(.t 4,none)],false⟩
abbrev o37_0:=[xo 1 (.box (.t 0)),xv 2 (.b false)]
abbrev o37_1:=[xv 3 (.clo 67 [])]
abbrev o37_2:=[xf 4 0 1,xl 5 4,xc 6 68 [.t 5,(xi 2)],xm 7 6,xt 7 8 (.fad 1 (.t 1)),xt 7 9 (.load .one (.t 8)),xt 7 10 (.mv (.t 3)),xt 7 11 (.call (.c (.clo 69 [])) [.t 9,.t 10] false),xo 12 (.pick (.t 7) (.t 11) (.c (.b false))),xm 13 12,xt 13 14 (.fad 2 (.t 1)),xt 13 15 (.load .one (.t 14)),xt 13 16 (.len false (.t 15)),xt 13 17 (.bin .gtr (.t 16) (xi 0)),
 xo 18 (.pick (.t 13) (.t 17) (.c (.b false))),xm 19 18,xt 19 20 (.fad 2 (.t 1)),xt 19 21 (.load .one (.t 20)),xt 19 22 (.call (.c (.clo 70 [])) [.t 21,(.c (.clo 71 []))] false),xo 23 (.pick (.t 19) (.t 22) (.c (.b false))),xm 2 23]
def a37:AFunc:=⟨(.seq (xr [1] o37_0) (.seq (xr [1,3] o37_1) (.seq (xr [2] o37_2) .ret))),
  [(.t 2,none)],false⟩
abbrev o38_0:=[xv 4 (.b false)]
abbrev o38_1:=[xm 7 0,xn 8 7,xv 9 (yi 0)]
abbrev o38_2:=[xb 10 .lss 9 8]
abbrev o38_3:=[xo 11 (.iad (.st 5) (.t 7) (.t 9)),xe 12 5 11,xa 6 [(.s []),(yi 0),(yi 0),(yi 0),(yi 0)],xs 5 6 12]
abbrev o38_4:=[xm 13 1,xe 14 5 6,xo 15 (.call (.t 13) [.t 14] false),xo 16 (.un .not (.t 15))]
abbrev o38_5:=[xv 4 (.b false)]
abbrev o38_6:=[xd 17 .add 9 1,xm 9 17]
def l38_0:ACode:=(.loop (.trn (.seq (xr [1,7,8,9,10] o38_2) (.seq (.cond (.t 10) .skip (.exit 0)) (.seq (.block 1 (.seq (xr [1,6,7,8,9] o38_3) (.seq (xr [1,7,8,9,16] o38_4) (.cond (.t 16) (.seq (xr [4] o38_5) .ret) .skip)))) (xr [1,7,8,9] o38_6))))))
abbrev o38_7:=[xv 4 (.b true)]
def a38:AFunc:=⟨(.seq (xr [0,1] o38_0) (.seq (.seq (xr [1,7,8,9] o38_1) (.block 0 l38_0)) (.seq (xr [4] o38_7) .ret))),
  [(.t 4,none)],false⟩
abbrev o39_0:=[xo 1 (.box (.t 0)),xv 2 (.b false)]
abbrev o39_1:=[xf 3 0 1,xl 4 3,xc 5 68 [.t 4,(xi 3)],xm 6 5,xt 6 7 (.fad 1 (.t 1)),xt 6 8 (.load .one (.t 7)),xt 6 9 (.bin .geq (.t 8) (xi 0)),xo 10 (.pick (.t 6) (.t 9) (.c (.b false))),xm 11 10,xt 11 12 (.fad 1 (.t 1)),xt 11 13 (.load .one (.t 12)),xt 11 14 (.bin .leq (.t 13) (xi 2)),xo 15 (.pick (.t 11) (.t 14) (.c (.b false))),xm 16 15,xt 16 17 (.fad 2 (.t 1)),
 xt 16 18 (.load .one (.t 17)),xt 16 19 (.bin .geq (.t 18) (xi 0)),xo 20 (.pick (.t 16) (.t 19) (.c (.b false))),xm 21 20,xt 21 22 (.fad 2 (.t 1)),xt 21 23 (.load .one (.t 22)),xt 21 24 (.bin .leq (.t 23) (xi 9)),xo 25 (.pick (.t 21) (.t 24) (.c (.b false))),xm 2 25]
def a39:AFunc:=⟨(.seq (xr [1] o39_0) (.seq (xr [2] o39_1) .ret)),
  [(.t 2,none)],false⟩
abbrev o40_0:=[xv 2 (.b false)]
abbrev o40_1:=[xm 7 0,xn 8 7,xv 9 (yi 0)]
abbrev o40_2:=[xb 10 .lss 9 8]
abbrev o40_3:=[xm 11 9,xo 12 (.iad (.st 4) (.t 7) (.t 9)),xe 13 4 12,xa 4 [(.s []),.nsl,(yi 0),(yi 0)],xm 3 11,xs 4 4 13]
abbrev o40_4:=[xm 14 3,xd 15 .gtr 14 0,xm 16 15,xt 16 17 (.mv (.t 0)),xt 16 18 (.mv (.t 3)),xt 16 19 (.bin .sub (.t 18) (xi 1)),xt 16 20 (.iad (.st 4) (.t 17) (.t 19)),xt 16 21 (.fad 0 (.t 20)),xt 16 22 (.load .one (.t 21)),xt 16 23 (.fad 0 (.t 4)),xt 16 24 (.load .one (.t 23)),xt 16 25 (.bin .eql (.t 22) (.t 24)),xo 26 (.pick (.t 16) (.t 25) (.c (.b false))),
 xm 27 26,xu 27 28 (.fad 0 (.t 4)),xu 27 29 (.load .one (.t 28)),xu 27 30 (.call (.c (.clo 74 [])) [.t 29] false),xu 27 31 (.un .not (.t 30)),xo 32 (.pick (.t 27) (.c (.b true)) (.t 31)),xm 33 32,xu 33 34 (.fad 1 (.t 4)),xu 33 35 (.load .one (.t 34)),xu 33 36 (.len false (.t 35)),xu 33 37 (.bin .eql (.t 36) (xi 0)),xo 38 (.pick (.t 33) (.c (.b true)) (.t 37))]
abbrev o40_5:=[xv 2 (.b false)]
abbrev o40_6:=[xf 39 1 4,xl 40 39,xn 41 40,xv 42 (yi 0)]
abbrev o40_7:=[xb 43 .lss 42 41]
abbrev o40_8:=[xo 44 (.iad (.st 2) (.t 40) (.t 42)),xe 45 2 44,xa 6 [.nsl,.nsl],xs 2 6 45]
abbrev o40_9:=[xf 46 0 6,xl 47 46,xo 48 (.call (.c (.clo 75 [])) [.t 47,(.c (.clo 76 []))] false),xo 49 (.un .not (.t 48)),xm 50 49,xu 50 51 (.fad 1 (.t 6)),xu 50 52 (.load .one (.t 51)),xu 50 53 (.call (.c (.clo 77 [])) [.t 52] false),xu 50 54 (.un .not (.t 53)),xo 55 (.pick (.t 50) (.c (.b true)) (.t 54))]
abbrev o40_10:=[xv 2 (.b false)]
abbrev o40_11:=[xd 56 .add 42 1,xm 42 56]
def l40_0:ACode:=(.loop (.trn (.seq (xr [0,7,8,9,40,41,42,43] o40_7) (.seq (.cond (.t 43) .skip (.exit 2)) (.seq (.block 3 (.seq (xr [0,6,7,8,9,40,41,42] o40_8) (.seq (xr [0,7,8,9,40,41,42,55] o40_9) (.cond (.t 55) (.seq (xr [2] o40_10) .ret) .skip)))) (xr [0,7,8,9,40,41,42] o40_11))))))
abbrev o40_12:=[xd 57 .add 9 1,xm 9 57]
def l40_1:ACode:=(.loop (.trn (.seq (xr [0,7,8,9,10] o40_2) (.seq (.cond (.t 10) .skip (.exit 0)) (.seq (.block 1 (.seq (xr [0,3,4,7,8,9] o40_3) (.seq (.seq (xr [0,4,7,8,9,38] o40_4) (.cond (.t 38) (.seq (xr [2] o40_5) .ret) .skip)) (.seq (xr [0,7,8,9,40,41,42] o40_6) (.block 2 l40_0))))) (xr [0,7,8,9] o40_12))))))
abbrev o40_13:=[xv 2 (.b true)]
def a40:AFunc:=⟨(.seq (xr [0] o40_0) (.seq (.seq (xr [0,7,8,9] o40_1) (.block 0 l40_1)) (.seq (xr [2] o40_13) .ret))),
  [(.t 2,none)],false⟩
abbrev o41_0:=[xv 0 .np]
abbrev o41_1:=[⟨some 2,.mkm,none,[]⟩,⟨none,(.upd (.t 2) (.c (.s [73,110,116])) (xi 0) false),none,[]⟩,⟨none,(.upd (.t 2) (.c (.s [66,111,111,108])) (xi 0) false),none,[]⟩,xm 3 2,⟨some 4,.mkm,none,[]⟩,xo 5 (.build [.nm,.nm,.nsl] [(0,1,(.t 3)),(1,1,(.t 4))]),xo 6 (.box (.t 5)),xm 1 6]
abbrev o41_2:=[xm 7 1,xo 8 (.build [(.s []),(.s []),(yi 0),(yi 0),.nsl] [(0,1,(.c (.s [70,97,108,115,101]))),(1,1,(.c (.s [66,111,111,108])))]),xc 9 78 [.t 7,.t 8]]
abbrev o41_3:=[xm 10 1,xo 11 (.build [(.s []),(.s []),(yi 0),(yi 0),.nsl] [(0,1,(.c (.s [84,114,117,101]))),(1,1,(.c (.s [66,111,111,108]))),(2,1,(xi 1))]),xc 12 78 [.t 10,.t 11]]
abbrev o41_4:=[xm 13 1,xm 0 13]
def a41:AFunc:=⟨(.seq (xr [] o41_0) (.seq (xr [1] o41_1) (.seq (xr [1] o41_2) (.seq (xr [1] o41_3) (.seq (xr [0] o41_4) .ret))))),
  [(.t 0,none)],false⟩
abbrev o42_0:=[xo 3 (.box (.t 1)),xv 4 (yi 0)]
abbrev o42_1:=[xm 10 0,xk 11 10,xf 12 0 11,xl 13 12,xf 14 0 3,xl 15 14,xo 16 (.look (yi 0) (.t 13) (.t 15) true),xm 9 16,xx 17 9 0,xx 18 9 1,xm 5 17,xm 6 18]
abbrev o42_2:=[xm 19 6]
abbrev o42_3:=[xv 4 (yi 80)]
abbrev o42_4:=[xf 20 1 3,xl 21 20,xn 22 21,xv 23 (yi 0)]
abbrev o42_5:=[xb 24 .lss 23 22]
abbrev o42_6:=[xm 25 23,xq 26 21 23,xl 27 26,xm 7 25,xm 8 27]
abbrev o42_7:=[xf 28 1 3,xl 29 28,xm 30 7,xo 31 (.slc false (.t 29) none (some (.t 30))),xm 32 8,xc 33 79 [.t 31,.t 32],xd 34 .geq 33 0]
abbrev o42_8:=[xv 4 (yi 80)]
abbrev o42_9:=[xd 35 .add 23 1,xm 23 35]
def l42_0:ACode:=(.loop (.seq (xr [0,3,21,22,23,24] o42_5) (.seq (.cond (.t 24) .skip (.exit 0)) (.seq (.block 1 (.seq (xr [0,3,7,8,21,22,23] o42_6) (.seq (xr [0,3,21,22,23,34] o42_7) (.cond (.t 34) (.seq (xr [4] o42_8) .ret) .skip)))) (xr [0,3,21,22,23] o42_9)))))
abbrev o42_10:=[xm 36 0,xk 37 36,xf 38 0 37,xl 39 38,xf 40 0 3,xl 41 40,xf 42 1 3,xl 43 42,xn 44 43,⟨none,(.upd (.t 39) (.t 41) (.t 44) false),none,[]⟩]
abbrev o42_11:=[xv 4 (yi 0)]
def a42:AFunc:=⟨(.seq (xr [0,3] o42_0) (.seq (.seq (xr [0,3,6] o42_1) (.seq (xr [0,3,19] o42_2) (.cond (.t 19) (.seq (xr [4] o42_3) .ret) .skip))) (.seq (.seq (xr [0,3,21,22,23] o42_4) (.block 0 l42_0)) (.seq (xr [] o42_10) (.seq (xr [4] o42_11) .ret))))),
  [(.t 4,none)],false⟩
abbrev o43_0:=[xo 5 (.box (.t 1)),xo 7 (.box (.t 3)),xv 8 (yi 0)]
abbrev o43_1:=[xm 17 0,xk 18 17,xf 19 1 18,xl 20 19,xf 21 0 7,xl 22 21,xo 23 (.look (.agg [(.s []),(.s []),(yi 0),(yi 0),.nsl]) (.t 20) (.t 22) true),xm 16 23,xx 24 16 0,xx 25 16 1,xa 9 [(.s []),(.s []),(yi 0),(yi 0),.nsl],xs 5 9 24,xm 10 25]
abbrev o43_2:=[xm 26 10]
abbrev o43_3:=[xv 8 (yi 80)]
abbrev o43_4:=[xf 27 0 7,xl 28 27,xf 29 0 5,xl 30 29,xm 31 2,xf 32 1 5,xl 33 32,xn 34 33,xo 35 (.build [(.s []),(.s []),(yi 0),(yi 0),.nsl] [(0,1,(.t 28)),(1,1,(.t 30)),(2,1,(.t 31)),(3,1,(.t 34))]),xa 11 [(.s []),(.s []),(yi 0),(yi 0),.nsl],xs 5 11 35]
abbrev o43_5:=[xf 36 1 7,xl 37 36,xn 38 37,xv 39 (yi 0)]
abbrev o43_6:=[xb 40 .lss 39 38]
abbrev o43_7:=[xo 41 (.iad (.st 4) (.t 37) (.t 39)),xe 42 4 41,xa 13 [(yi 0),(yi 0),(.s []),.nsl],xs 4 13 42]
abbrev o43_8:=[xm 44 0,xf 45 1 5,xl 46 45,xe 47 4 13,xc 48 80 [.t 44,.t 46,.t 47],xm 43 48,xx 49 43 0,xx 50 43 1,xa 14 [(yi 0),(yi 0),(.s []),.nsl],xs 4 14 49,xm 15 50]
abbrev o43_9:=[xm 51 15,xd 52 .neq 51 0]
abbrev o43_10:=[xm 53 15,xm 8 53]
abbrev o43_11:=[xf 54 4 11,xl 55 54,xe 56 4 14,xo 57 (.bsl (.st 4) [(yi 0),(yi 0),(.s []),.nsl] 1 [(0,4,(.t 56))]),xo 58 (.app (.st 4) (.t 55) (.t 57) false),xf 59 4 11,xs 1 59 58]
abbrev o43_12:=[xd 60 .add 39 1,xm 39 60]
def l43_0:ACode:=(.loop (.trn (.seq (xr [0,5,11,37,38,39,40] o43_6) (.seq (.cond (.t 40) .skip (.exit 0)) (.seq (.block 1 (.seq (xr [0,5,11,13,37,38,39] o43_7) (.seq (xr [0,5,11,14,15,37,38,39] o43_8) (.seq (.seq (xr [0,5,11,14,15,37,38,39,52] o43_9) (.cond (.t 52) (.seq (xr [8] o43_10) .ret) .skip)) (xr [0,5,11,37,38,39] o43_11))))) (xr [0,5,11,37,38,39] o43_12))))))
abbrev o43_13:=[xm 61 0,xe 62 5 11,xo 63 (.call (.c (.clo 78 [])) [.t 61,.t 62] true)]
abbrev o43_14:=[xv 8 (yi 0)]
def a43:AFunc:=⟨(.seq (xr [0,2,5,7] o43_0) (.seq (.seq (xr [0,2,5,7,10] o43_1) (.seq (xr [0,2,5,7,26] o43_2) (.cond (.t 26) (.seq (xr [8] o43_3) .ret) .skip))) (.seq (xr [0,5,7,11] o43_4) (.seq (.seq (xr [0,5,11,37,38,39] o43_5) (.block 0 l43_0)) (.seq (xr [] o43_13) (.seq (xr [8] o43_14) .ret)))))),
  [(.t 8,none)],false⟩
abbrev o44_0:=[xv 2 (yi 0)]
abbrev o44_1:=[xm 4 0,xo 5 (.bin .eql (.t 4) (.c (.s [])))]
abbrev o44_2:=[xv 2 (yi 0)]
abbrev o44_3:=[xv 3 (yi 1)]
abbrev o44_4:=[xm 6 3,xd 7 .leq 6 11]
abbrev o44_5:=[xm 10 3,xc 11 81 [.t 10],xm 12 0,xb 13 .eql 11 12]
abbrev o44_6:=[xm 14 3,xm 2 14]
abbrev o44_7:=[xm 8 3,xd 9 .add 8 1,xm 3 9]
def l44_0:ACode:=(.loop (.seq (.seq (xr [0,3,7] o44_4) (.cond (.t 7) .skip (.exit 0))) (.seq (.block 1 (.seq (xr [0,3,13] o44_5) (.cond (.t 13) (.seq (xr [2] o44_6) .ret) .skip))) (xr [0,3] o44_7))))
abbrev o44_8:=[xv 2 (yi 0)]
def a44:AFunc:=⟨(.seq (xr [0] o44_0) (.seq (.seq (xr [0,5] o44_1) (.cond (.t 5) (.seq (xr [2] o44_2) .ret) .skip)) (.seq (.seq (xr [0,3] o44_3) (.block 0 l44_0)) (.seq (xr [2] o44_8) .ret)))),
  [(.t 2,none)],false⟩
abbrev o45_0:=[xm 7 0,xk 8 7,xf 9 1 8,xl 10 9,xn 11 10,xm 6 11]
abbrev o45_1:=[xm 12 0,xm 13 0,xk 14 13,xf 15 1 14,xl 16 15,xm 17 1,xo 18 (.app .one (.t 16) (.t 17) false),xk 19 12,xf 20 1 19,xs 1 20 18]
abbrev o45_2:=[xm 21 2,xo 22 (.call (.t 21) [] false)]
abbrev o45_3:=[xm 23 0,xm 24 0,xk 25 24,xf 26 1 25,xl 27 26,xm 28 6,xo 29 (.slc false (.t 27) none (some (.t 28))),xk 30 23,xf 31 1 30,xs 1 31 29]
def a45:AFunc:=⟨(.seq (xr [0,1,2,6] o45_0) (.seq (xr [0,2,6] o45_1) (.seq (xr [0,6] o45_2) (xr [] o45_3)))),
  [],false⟩
abbrev o46_0:=[xl 5 0,xn 6 5,xv 7 (yi 0)]
abbrev o46_1:=[xb 8 .lss 7 6]
abbrev o46_2:=[xo 9 (.iad (.st 4) (.t 5) (.t 7)),xe 10 4 9,xa 4 [(.s []),.nsl,(yi 0),(yi 0)],xs 4 4 10]
abbrev o46_3:=[xl 11 1,xe 12 4 4,xc 13 47 [.t 11,.t 12]]
abbrev o46_4:=[xd 14 .add 7 1,xm 7 14]
def l46_0:ACode:=(.loop (.trn (.seq (xr [1,2,5,6,7,8] o46_1) (.seq (.cond (.t 8) .skip (.exit 0)) (.seq (.block 1 (.seq (xr [1,2,4,5,6,7] o46_2) (xr [1,2,5,6,7] o46_3))) (xr [1,2,5,6,7] o46_4))))))
abbrev o46_5:=[xl 15 2,xo 16 (.call (.t 15) [] false)]
def a46:AFunc:=⟨(.seq (.seq (xr [1,2,5,6,7] o46_0) (.block 0 l46_0)) (xr [] o46_5)),
  [],false⟩
abbrev o47_0:=[xo 3 (.box (.t 1))]
abbrev o47_1:=[xf 9 1 3,xl 10 9,xo 11 (.iad (.st 2) (.t 10) (xi 0)),xf 12 0 11,xl 13 12,xn 14 13,xm 4 14]
abbrev o47_2:=[xm 15 4,xd 16 .eql 15 0,xm 17 16,xt 17 18 (.fad 1 (.t 3)),xt 17 19 (.load .one (.t 18)),xt 17 20 (.len false (.t 19)),xt 17 21 (.bin .gtr (.t 20) (xi 1)),xo 22 (.pick (.t 17) (.t 21) (.c (.b false)))]
abbrev o47_3:=[xm 23 0,xf 24 2 3,xe 25 2 24,xc 26 21 [.t 23,(xi 80),.t 25]]
abbrev o47_4:=[xf 27 1 3,xl 28 27,xn 29 28,xv 30 (yi 0)]
abbrev o47_5:=[xb 31 .lss 30 29]
abbrev o47_6:=[xo 32 (.iad (.st 2) (.t 28) (.t 30)),xe 33 2 32,xa 6 [.nsl,.nsl],xs 2 6 33]
abbrev o47_7:=[xf 34 0 6,xl 35 34,xn 36 35,xm 37 4,xb 38 .neq 36 37]
abbrev o47_8:=[xm 39 0,xf 40 2 3,xe 41 2 40,xc 42 21 [.t 39,(xi 82),.t 41]]
abbrev o47_9:=[xd 43 .add 30 1,xm 30 43]
def l47_0:ACode:=(.loop (.trn (.seq (xr [0,3,4,28,29,30,31] o47_5) (.seq (.cond (.t 31) .skip (.exit 0)) (.seq (.block 1 (.seq (xr [0,3,4,6,28,29,30] o47_6) (.seq (xr [0,3,4,28,29,30,38] o47_7) (.cond (.t 38) (xr [0,3,4,28,29,30] o47_8) .skip)))) (xr [0,3,4,28,29,30] o47_9))))))
abbrev o47_10:=[xf 44 1 3,xl 45 44,xn 46 45,xv 47 (yi 0)]
abbrev o47_11:=[xb 48 .lss 47 46]
abbrev o47_12:=[xo 49 (.iad (.st 2) (.t 45) (.t 47)),xe 50 2 49,xa 8 [.nsl,.nsl],xs 2 8 50]
abbrev o47_13:=[xm 51 0,xf 52 0 8,xl 53 52,xf 54 1 8,xl 55 54,xc 56 82 [.t 51,.t 53,.t 55]]
abbrev o47_14:=[xd 57 .add 47 1,xm 47 57]
def l47_1:ACode:=(.loop (.trn (.seq (xr [0,45,46,47,48] o47_11) (.seq (.cond (.t 48) .skip (.exit 2)) (.seq (.block 3 (.seq (xr [0,8,45,46,47] o47_12) (xr [0,45,46,47] o47_13))) (xr [0,45,46,47] o47_14))))))
def a47:AFunc:=⟨(.seq (xr [0,3] o47_0) (.seq (xr [0,3,4] o47_1) (.seq (.seq (xr [0,3,4,22] o47_2) (.cond (.t 22) (xr [0,3,4] o47_3) .skip)) (.seq (.seq (xr [0,3,4,28,29,30] o47_4) (.block 0 l47_0)) (.seq (xr [0,45,46,47] o47_10) (.block 2 l47_1)))))),
  [],false⟩
abbrev o48_0:=[xv 2 (yi 0)]
abbrev o48_1:=[xm 7 0,xn 8 7,xd 9 .gtr 8 2048]
abbrev o48_2:=[xv 2 (yi 2)]
abbrev o48_3:=[xm 10 0,xn 11 10,xv 12 (yi 0)]
abbrev o48_4:=[xb 13 .lss 12 11]
abbrev o48_5:=[xq 14 10 12,xl 15 14,xm 4 15]
abbrev o48_6:=[xm 16 4,xn 17 16,xv 18 (yi 0)]
abbrev o48_7:=[xb 19 .lss 18 17]
abbrev o48_8:=[xq 20 16 18,xl 21 20,xm 6 21]
abbrev o48_9:=[xm 22 6,xd 23 .lss 22 0,xm 24 23,xu 24 25 (.mv (.t 6)),xu 24 26 (.mv (.t 0)),xu 24 27 (.len false (.t 26)),xu 24 28 (.bin .geq (.t 25) (.t 27)),xo 29 (.pick (.t 24) (.c (.b true)) (.t 28))]
abbrev o48_10:=[xv 2 (yi 1)]
abbrev o48_11:=[xd 30 .add 18 1,xm 18 30]
def l48_0:ACode:=(.loop (.seq (xr [0,10,11,12,16,17,18,19] o48_7) (.seq (.cond (.t 19) .skip (.exit 2)) (.seq (.block 3 (.seq (xr [0,6,10,11,12,16,17,18] o48_8) (.seq (xr [0,10,11,12,16,17,18,29] o48_9) (.cond (.t 29) (.seq (xr [2] o48_10) .ret) .skip)))) (xr [0,10,11,12,16,17,18] o48_11)))))
abbrev o48_12:=[xd 31 .add 12 1,xm 12 31]
def l48_1:ACode:=(.loop (.seq (xr [0,10,11,12,13] o48_4) (.seq (.cond (.t 13) .skip (.exit 0)) (.seq (.block 1 (.seq (xr [0,4,10,11,12] o48_5) (.seq (xr [0,10,11,12,16,17,18] o48_6) (.block 2 l48_0)))) (xr [0,10,11,12] o48_12)))))
abbrev o48_13:=[xv 2 (yi 0)]
def a48:AFunc:=⟨(.seq (xr [0] o48_0) (.seq (.seq (xr [0,9] o48_1) (.cond (.t 9) (.seq (xr [2] o48_2) .ret) .skip)) (.seq (.seq (xr [0,10,11,12] o48_3) (.block 0 l48_1)) (.seq (xr [2] o48_13) .ret)))),
  [(.t 2,none)],false⟩
abbrev o49_0:=[xv 2 .nsl,xv 3 (yi 0)]
abbrev o49_1:=[xm 7 0,xn 8 7,xm 4 8]
abbrev o49_2:=[xm 9 0,xm 10 4,xo 11 (.msl .one [(yi 0)] (.t 10) (.t 10)),xm 12 4,xo 13 (.msl .one [(yi 0)] (.t 12) (.t 12)),xm 14 4,xo 15 (.msl .one [(.b false)] (.t 14) (.t 14)),xm 16 4,xo 17 (.msl .one [(yi 0)] (.t 16) (.t 16)),
 xo 18 (.build [.nsl,.nsl,.nsl,.nsl,.nsl,.nsl,(yi 0),(yi 0)] [(0,1,(.t 9)),(1,1,(.t 11)),(2,1,(.t 13)),(4,1,(.t 15)),(5,1,(.t 17))]),xo 19 (.box0 (.t 18)),xm 5 19]
abbrev o49_3:=[xm 20 0,xn 21 20,xv 22 (yi 0)]
abbrev o49_4:=[xb 23 .lss 22 21]
abbrev o49_5:=[xm 24 22,xm 6 24]
abbrev o49_6:=[xm 25 5,xk 26 25,xf 27 1 26,xl 28 27,xm 29 6,xq 30 28 29,xl 31 30,xd 32 .eql 31 0]
abbrev o49_7:=[xm 33 5,xm 34 6,xc 35 83 [.t 33,.t 34]]
abbrev o49_8:=[xd 36 .add 22 1,xm 22 36]
def l49_0:ACode:=(.loop (.seq (xr [5,21,22,23] o49_4) (.seq (.cond (.t 23) .skip (.exit 0)) (.seq (.block 1 (.seq (xr [5,6,21,22] o49_5) (.seq (xr [5,6,21,22,32] o49_6) (.cond (.t 32) (xr [5,21,22] o49_7) .skip)))) (xr [5,21,22] o49_8)))))
abbrev o49_9:=[xm 37 5,xk 38 37,xf 39 5 38,xl 40 39,xm 41 5,xk 42 41,xf 43 7 42,xl 44 43,xm 2 40,xm 3 44]
def a49:AFunc:=⟨(.seq (xr [0] o49_0) (.seq (xr [0,4] o49_1) (.seq (xr [0,5] o49_2) (.seq (.seq (xr [5,21,22] o49_3) (.block 0 l49_0)) (.seq (xr [2,3] o49_9) .ret))))),
  [(.t 2,none),(.t 3,none)],true⟩
abbrev o50_0:=[xv 8 (yi 0)]
abbrev o50_1:=[xm 11 0,xn 12 11,xv 13 (yi 0)]
abbrev o50_2:=[xb 14 .lss 13 12]
abbrev o50_3:=[xm 15 13,xm 9 15]
abbrev o50_4:=[xm 16 1,xm 17 9,xq 18 16 17,xl 19 18,xm 10 19]
abbrev o50_5:=[xm 20 3,xm 21 10,xq 22 20 21,xl 23 22,xo 24 (.un .not (.t 23)),xm 25 24,xt 25 26 (.mv (.t 2)),xt 25 27 (.mv (.t 10)),xt 25 28 (.iad .one (.t 26) (.t 27)),xt 25 29 (.load .one (.t 28)),xt 25 30 (.iad .one (.t 29) (xi 0)),xt 25 31 (.load .one (.t 30)),xt 25 32 (.mv (.t 9)),xt 25 33 (.bin .eql (.t 31) (.t 32)),
 xo 34 (.pick (.t 25) (.t 33) (.c (.b false))),xm 35 34,xt 35 36 (.mv (.t 0)),xt 35 37 (.mv (.t 1)),xt 35 38 (.mv (.t 2)),xt 35 39 (.mv (.t 10)),xt 35 40 (.iad .one (.t 38) (.t 39)),xt 35 41 (.load .one (.t 40)),xt 35 42 (.mv (.t 3)),xt 35 43 (.call (.c (.clo 84 [])) [.t 36,.t 37,.t 41,.t 42] false),xo 44 (.pick (.t 35) (.t 43) (.c (.b false)))]
abbrev o50_6:=[xm 45 10,xm 8 45]
abbrev o50_7:=[xd 46 .add 13 1,xm 13 46]
def l50_0:ACode:=(.loop (.seq (xr [0,1,2,3,12,13,14] o50_2) (.seq (.cond (.t 14) .skip (.exit 0)) (.seq (.block 1 (.seq (xr [0,1,2,3,9,12,13] o50_3) (.seq (xr [0,1,2,3,9,10,12,13] o50_4) (.seq (xr [0,1,2,3,10,12,13,44] o50_5) (.cond (.t 44) (.seq (xr [8] o50_6) .ret) .skip))))) (xr [0,1,2,3,12,13] o50_7)))))
abbrev o50_8:=[xv 8 (yi 0)]
def a50:AFunc:=⟨(.seq (xr [0,1,2,3] o50_0) (.seq (.seq (xr [0,1,2,3,12,13] o50_1) (.block 0 l50_0)) (.seq (xr [8] o50_8) .ret))),
  [(.t 8,none)],false⟩
abbrev o51_0:=[xo 3 (.box (.t 0)),xo 5 (.box (.t 2))]
abbrev o51_1:=[xv 6 .nsl]
abbrev o51_2:=[xm 9 1,xn 10 9,xv 11 (yi 0)]
abbrev o51_3:=[xb 12 .lss 11 10]
abbrev o51_4:=[xo 13 (.iad (.st 6) (.t 9) (.t 11)),xe 14 6 13,xa 8 [(yi 0),(.s []),(yi 0),.nsl,(yi 0),(yi 0)],xs 6 8 14]
abbrev o51_5:=[xm 15 6,xe 16 6 8,xc 17 85 [.t 16],xo 18 (.app .one (.t 15) (.t 17) false),xm 6 18]
abbrev o51_6:=[xd 19 .add 11 1,xm 11 19]
def l51_0:ACode:=(.loop (.trn (.seq (xr [3,5,6,9,10,11,12] o51_3) (.seq (.cond (.t 12) .skip (.exit 0)) (.seq (.block 1 (.seq (xr [3,5,6,8,9,10,11] o51_4) (xr [3,5,6,9,10,11] o51_5))) (xr [3,5,6,9,10,11] o51_6))))))
abbrev o51_7:=[xl 20 3,xm 21 6,xo 22 (.mkf 87 [.t 5,.t 3]),xc 23 86 [.t 20,.t 21,.t 22]]
def a51:AFunc:=⟨(.seq (xr [1,3,5] o51_0) (.seq (xr [1,3,5,6] o51_1) (.seq (.seq (xr [3,5,6,9,10,11] o51_2) (.block 0 l51_0)) (xr [] o51_7)))),
  [],false⟩
abbrev o52_0:=[xv 2 (.b false)]
abbrev o52_1:=[xm 4 0,xk 5 4,xf 6 1 5,xl 7 6,xm 8 0,xk 9 8,xf 10 0 9,xl 11 10,xo 12 (.len true (.t 11)),xb 13 .lss 7 12]
abbrev o52_2:=[xm 14 0,xk 15 14,xf 16 0 15,xl 17 16,xm 18 0,xk 19 18,xf 20 1 19,xl 21 20,xo 22 (.idx (.t 17) (.t 21)),xm 3 22]
abbrev o52_3:=[xm 24 3,xo 25 (.bin .eql (.t 24) (.c (.i .u8 32))),xm 23 25]
abbrev o52_4:=[xm 26 0,xk 27 26,xf 28 1 27,xl 29 28,xd 30 .add 29 1,xk 31 26,xf 32 1 31,xs 1 32 30]
abbrev o52_5:=[xm 33 0,xk 34 33,xf 35 2 34,xf 36 1 35,xl 37 36,xd 38 .add 37 1,xk 39 33,xf 40 2 39,xf 41 1 40,xs 1 41 38]
abbrev o52_6:=[xm 43 3,xo 44 (.bin .eql (.t 43) (.c (.i .u8 10))),xm 42 44]
abbrev o52_7:=[xm 45 0,xk 46 45,xf 47 1 46,xl 48 47,xd 49 .add 48 1,xk 50 45,xf 51 1 50,xs 1 51 49]
abbrev o52_8:=[xm 52 0,xm 53 0,xk 54 53,xf 55 2 54,xf 56 0 55,xl 57 56,xd 58 .add 57 1,xo 59 (.build [(yi 0),(yi 0)] [(0,1,(.t 58)),(1,1,(xi 1))]),xk 60 52,xf 61 2 60,xs 2 61 59]
abbrev o52_9:=[xm 63 3,xo 64 (.bin .eql (.t 63) (.c (.i .u8 45))),xm 65 64,xt 65 66 (.mv (.t 0)),xt 65 67 (.nck (.t 66)),xt 65 68 (.fad 1 (.t 67)),xt 65 69 (.load .one (.t 68)),xt 65 70 (.bin .add (.t 69) (xi 1)),xt 65 71 (.mv (.t 0)),xt 65 72 (.nck (.t 71)),xt 65 73 (.fad 0 (.t 72)),xt 65 74 (.load .one (.t 73)),xt 65 75 (.len true (.t 74)),
 xt 65 76 (.bin .lss (.t 70) (.t 75)),xo 77 (.pick (.t 65) (.t 76) (.c (.b false))),xm 78 77,xt 78 79 (.mv (.t 0)),xt 78 80 (.nck (.t 79)),xt 78 81 (.fad 0 (.t 80)),xt 78 82 (.load .one (.t 81)),xt 78 83 (.mv (.t 0)),xt 78 84 (.nck (.t 83)),xt 78 85 (.fad 1 (.t 84)),xt 78 86 (.load .one (.t 85)),xt 78 87 (.bin .add (.t 86) (xi 1)),xt 78 88 (.idx (.t 82) (.t 87)),
 xt 78 89 (.bin .eql (.t 88) (.c (.i .u8 45))),xo 90 (.pick (.t 78) (.t 89) (.c (.b false))),xm 62 90]
abbrev o52_10:=[xm 91 0,xc 92 89 [.t 91]]
def l52_0:ACode:=(.loop (.seq (.seq (xr [0,13] o52_1) (.cond (.t 13) .skip (.exit 0))) (.block 1 (.seq (xr [0,3] o52_2) (.block 2 (.seq (xr [0,3,23] o52_3) (.cond (.t 23) (.seq (xr [0] o52_4) (xr [0] o52_5)) (.seq (xr [0,3,42] o52_6) (.cond (.t 42) (.seq (xr [0] o52_7) (xr [0] o52_8)) (.seq (xr [0,62] o52_9) (.cond (.t 62) (.seq (xr [0] o52_10) (.exit 1)) (.exit 0))))))))))))
abbrev o52_11:=[xm 93 0,xk 94 93,xf 95 1 94,xl 96 95,xm 97 0,xk 98 97,xf 99 0 98,xl 100 99,xo 101 (.len true (.t 100)),xb 102 .lss 96 101,xm 2 102]
def a52:AFunc:=⟨(.seq (xr [0] o52_0) (.seq .skip (.seq (.block 0 l52_0) (.seq (xr [2] o52_11) .ret)))),
  [(.t 2,none)],false⟩
abbrev o53_0:=[xa 2 [(yi 0),(.s []),(yi 0),(yi 0),(yi 0),(.b false)],xv 3 (yi 0)]
abbrev o53_1:=[xm 8 0,xk 9 8,xf 10 0 9,xl 11 10,xm 12 0,xk 13 12,xf 14 1 13,xl 15 14,xo 16 (.idx (.t 11) (.t 15)),xc 17 90 [.t 16],xm 4 17]
abbrev o53_2:=[xm 18 4,xd 19 .eql 18 0]
abbrev o53_3:=[xo 20 (.build [(yi 0),(.s []),(yi 0),(yi 0),(yi 0),(.b false)] []),xs 6 2 20,xv 3 (yi 20)]
abbrev o53_4:=[xm 21 0,xk 22 21,xf 23 1 22,xl 24 23,xm 5 24]
abbrev o53_5:=[xm 25 0,xk 26 25,xf 27 2 26,xe 28 2 27,xo 29 (.build [(yi 0),(.s []),(yi 0),(yi 0),(yi 0),(.b false)] [(3,2,(.t 28))]),xa 6 [(yi 0),(.s []),(yi 0),(yi 0),(yi 0),(.b false)],xs 6 6 29]
abbrev o53_6:=[xm 30 0,xk 31 30,xf 32 1 31,xl 33 32,xd 34 .add 33 1,xk 35 30,xf 36 1 35,xs 1 36 34]
abbrev o53_7:=[xm 37 0,xk 38 37,xf 39 1 38,xl 40 39,xm 41 0,xk 42 41,xf 43 0 42,xl 44 43,xo 45 (.len true (.t 44)),xb 46 .lss 40 45,xm 47 46,xt 47 48 (.mv (.t 4)),xt 47 49 (.mv (.t 0)),xt 47 50 (.nck (.t 49)),xt 47 51 (.fad 0 (.t 50)),xt 47 52 (.load .one (.t 51)),xt 47 53 (.mv (.t 0)),xt 47 54 (.nck (.t 53)),xt 47 55 (.fad 1 (.t 54)),xt 47 56 (.load .one (.t 55)),
 xt 47 57 (.idx (.t 52) (.t 56)),xt 47 58 (.call (.c (.clo 91 [])) [.t 48,.t 57] false),xo 59 (.pick (.t 47) (.t 58) (.c (.b false)))]
abbrev o53_8:=[xm 60 0,xk 61 60,xf 62 1 61,xl 63 62,xd 64 .add 63 1,xk 65 60,xf 66 1 65,xs 1 66 64]
def l53_0:ACode:=(.loop (.seq (.seq (xr [0,2,4,5,6,59] o53_7) (.cond (.t 59) .skip (.exit 0))) (.block 1 (xr [0,2,4,5,6] o53_8))))
abbrev o53_9:=[xm 67 0,xk 68 67,xf 69 0 68,xl 70 69,xm 71 5,xm 72 0,xk 73 72,xf 74 1 73,xl 75 74,xo 76 (.slc true (.t 70) (some (.t 71)) (some (.t 75))),xf 77 1 6,xs 1 77 76]
abbrev o53_10:=[xm 78 0,xk 79 78,xf 80 2 79,xf 81 1 80,xl 82 81,xm 83 0,xk 84 83,xf 85 1 84,xl 86 85,xm 87 5,xb 88 .sub 86 87,xb 89 .add 82 88,xk 90 78,xf 91 2 90,xf 92 1 91,xs 1 92 89]
abbrev o53_11:=[xm 93 4,xf 94 1 6,xl 95 94,xc 96 92 [.t 93,.t 95],xf 97 0 6,xs 1 97 96]
abbrev o53_12:=[xf 98 0 6,xl 99 98,xd 100 .neq 99 4,xm 101 100,xt 101 102 (.fad 1 (.t 6)),xt 101 103 (.load .one (.t 102)),xt 101 104 (.len true (.t 103)),xt 101 105 (.bin .gtr (.t 104) (xi 32)),xo 106 (.pick (.t 101) (.t 105) (.c (.b false)))]
abbrev o53_13:=[xo 107 (.build [(yi 0),(.s []),(yi 0),(yi 0),(yi 0),(.b false)] []),xs 6 2 107,xv 3 (yi 2)]
abbrev o53_14:=[xv 7 (yi 0)]
abbrev o53_15:=[xf 108 0 6,xl 109 108,xd 110 .eql 109 4]
abbrev o53_16:=[xf 112 1 6,xl 113 112,xc 114 93 [.t 113],xm 111 114,xx 115 111 0,xx 116 111 1,xf 117 2 6,xs 1 117 115,xm 7 116]
abbrev o53_17:=[xm 118 7,xd 119 .neq 118 0]
abbrev o53_18:=[xo 120 (.build [(yi 0),(.s []),(yi 0),(yi 0),(yi 0),(.b false)] []),xm 121 7,xs 6 2 120,xm 3 121]
abbrev o53_19:=[xe 122 6 6,xs 6 2 122,xv 3 (yi 0)]
def a53:AFunc:=⟨(.seq (xr [0,2] o53_0) (.seq (xr [0,2,4] o53_1) (.seq (.seq (xr [0,2,4,19] o53_2) (.cond (.t 19) (.seq (xr [2,3] o53_3) .ret) .skip)) (.seq (xr [0,2,4,5] o53_4) (.seq (xr [0,2,4,5,6] o53_5) (.seq (xr [0,2,4,5,6] o53_6) (.seq (.block 0 l53_0) (.seq (xr [0,2,4,5,6] o53_9) (.seq (xr [2,4,6] o53_10) (.seq (xr [2,6] o53_11) (.seq (.seq (xr [2,6,106] o53_12) (.cond (.t 106) (.seq (xr [2,3] o53_13) .ret) .skip)) (.seq (xr [2,6,7] o53_14) (.seq (.seq (xr [2,6,7,110] o53_15) (.cond (.t 110) (xr [2,6,7] o53_16) .skip)) (.seq (.seq (xr [2,6,7,119] o53_17) (.cond (.t 119) (.seq (xr [2,3] o53_18) .ret) .skip)) (.seq (xr [2,3] o53_19) .ret))))))))))))))),
  [(.t 2,some (.st 6)),(.t 3,none)],false⟩
abbrev o54_0:=[xo 3 (.box (.t 1)),xv 4 (.b false)]
abbrev o54_1:=[xm 5 0,xk 6 5,xf 7 2 6,⟨none,(.store 1 (.t 7) (.c (.b false)) false),none,[]⟩]
abbrev o54_2:=[xf 8 0 3,xl 9 8,xd 10 .eql 9 5,xm 11 10,xt 11 12 (.fad 1 (.t 3)),xt 11 13 (.load .one (.t 12)),xt 11 14 (.bin .eql (.t 13) (.c (.s [123]))),xo 15 (.pick (.t 11) (.t 14) (.c (.b false)))]
abbrev o54_3:=[xv 4 (.b true)]
abbrev o54_4:=[xf 16 3 3,xf 17 1 16,xl 18 17,xm 19 0,⟨some 20,(.call (.c (.clo 94 [])) [.t 19] false),none,[(18,none,(.load .one (.t 17)))]⟩,xb 21 .gtr 18 20]
abbrev o54_5:=[xm 22 0,xo 23 (.call (.c (.clo 58 [])) [.t 22,(.c (.s [123]))] false)]
abbrev o54_6:=[xm 24 0,xf 25 3 3,xf 26 1 25,xl 27 26,xc 28 95 [.t 24,(xi 0),.t 27]]
abbrev o54_7:=[xv 4 (.b true)]
abbrev o54_8:=[xm 29 0,xo 30 (.call (.c (.clo 58 [])) [.t 29,(.c (.s [123]))] false)]
abbrev o54_9:=[xm 31 0,xo 32 (.call (.c (.clo 58 [])) [.t 31,(.c (.s [125]))] false)]
abbrev o54_10:=[xv 4 (.b false)]
def a54:AFunc:=⟨(.seq (xr [0,3] o54_0) (.seq (xr [0,3] o54_1) (.seq (.seq (xr [0,3,15] o54_2) (.cond (.t 15) (.seq (xr [4] o54_3) .ret) .skip)) (.seq (.seq (xr [0,3,21] o54_4) (.cond (.t 21) (.seq (xr [0,3] o54_5) (.seq (xr [] o54_6) (.seq (xr [4] o54_7) .ret))) .skip)) (.seq (xr [0] o54_8) (.seq (xr [] o54_9) (.seq (xr [4] o54_10) .ret))))))),
  [(.t 4,none)],false⟩
abbrev o55_0:=[xo 3 (.box (.t 1))]
abbrev o55_1:=[xm 4 0,xc 5 96 [.t 4],xm 6 5,xt 6 7 (.mv (.t 0)),xt 6 9 (.fad 3 (.t 3)),xt 6 10 (.fad 1 (.t 9)),xt 6 11 (.load .one (.t 10)),⟨some 8,(.call (.c (.clo 94 [])) [.t 7] false),some (6,true),[(11,some (6,true),(.load .one (.t 10)))]⟩,xt 6 12 (.bin .gtr (.t 8) (.t 11)),xo 13 (.pick (.t 6) (.t 12) (.c (.b false)))]
abbrev o55_2:=[xm 14 0,xm 15 0,xk 16 15,xf 17 1 16,xl 18 17,xm 19 0,⟨some 20,(.call (.c (.clo 97 [])) [.t 19] false),none,[(18,none,(.load .one (.t 17)))]⟩,xo 21 (.slc false (.t 18) none (some (.t 20))),xk 22 14,xf 23 1 22,xs 1 23 21]
abbrev o55_3:=[xm 24 0,xo 25 (.call (.c (.clo 58 [])) [.t 24,(.c (.s [125]))] false)]
def l55_0:ACode:=(.loop (.seq (.seq (xr [0,3,13] o55_1) (.cond (.t 13) .skip (.exit 0))) (.block 1 (.seq (xr [0,3] o55_2) (xr [0,3] o55_3)))))
abbrev o55_4:=[xm 26 0,xc 27 96 [.t 26],xm 28 27,xt 28 29 (.mv (.t 0)),xt 28 31 (.fad 3 (.t 3)),xt 28 32 (.fad 1 (.t 31)),xt 28 33 (.load .one (.t 32)),⟨some 30,(.call (.c (.clo 94 [])) [.t 29] false),some (28,true),[(33,some (28,true),(.load .one (.t 32)))]⟩,xt 28 34 (.bin .eql (.t 30) (.t 33)),xo 35 (.pick (.t 28) (.t 34) (.c (.b false)))]
abbrev o55_5:=[xm 36 0,xo 37 (.call (.c (.clo 58 [])) [.t 36,(.c (.s [59]))] false)]
def a55:AFunc:=⟨(.seq (xr [0,3] o55_0) (.seq (.block 0 l55_0) (.seq (xr [0,35] o55_4) (.cond (.t 35) (xr [] o55_5) .skip)))),
  [],false⟩
abbrev o56_0:=[xo 3 (.box (.t 1))]
abbrev o56_1:=[xv 4 (yi (-1))]
abbrev o56_2:=[xf 6 0 3,xl 7 6,xd 8 .eql 7 5,xm 9 8,xt 9 10 (.fad 1 (.t 3)),xt 9 11 (.load .one (.t 10)),xt 9 12 (.bin .eql (.t 11) (.c (.s [41]))),xo 13 (.pick (.t 9) (.t 12) (.c (.b false))),xm 5 13]
abbrev o56_3:=[xm 14 0,xo 15 (.bsl .one [(yi 0)] 1 [(0,1,(xi 1))]),xc 16 98 [.t 14,(xi 2),.t 15],xm 4 16]
abbrev o56_4:=[xf 18 0 3,xl 19 18,xd 20 .eql 19 5,xm 21 20,xt 21 22 (.fad 1 (.t 3)),xt 21 23 (.load .one (.t 22)),xt 21 24 (.bin .eql (.t 23) (.c (.s [125]))),xo 25 (.pick (.t 21) (.t 24) (.c (.b false))),xm 17 25]
abbrev o56_5:=[xm 26 0,xc 27 98 [.t 26,(xi 1),(.c .nsl)],xm 4 27]
abbrev o56_6:=[xf 29 0 3,xl 30 29,xd 31 .neq 30 6,xm 28 31]
abbrev o56_7:=[xf 33 1 3,xl 34 33,xo 35 (.bin .eql (.t 34) (.c (.s [105,110]))),xm 32 35]
abbrev o56_8:=[xm 36 0,xo 37 (.bsl .one [(yi 0)] 2 [(0,1,(xi 1)),(1,1,(xi 2))]),xc 38 98 [.t 36,(xi 3),.t 37],xm 4 38]
abbrev o56_9:=[xf 40 1 3,xl 41 40,xo 42 (.bin .eql (.t 41) (.c (.s [111,102]))),xm 39 42]
abbrev o56_10:=[xm 43 0,xo 44 (.bsl .one [(yi 0)] 2 [(0,1,(xi 1)),(1,1,(xi 2))]),xc 45 98 [.t 43,(xi 4),.t 44],xm 4 45]
abbrev o56_11:=[xf 47 1 3,xl 48 47,xo 49 (.bin .eql (.t 48) (.c (.s [116,104,101,110]))),xm 46 49]
abbrev o56_12:=[xm 50 0,xo 51 (.bsl .one [(yi 0)] 2 [(0,1,(xi 1)),(1,1,(xi 2))]),xc 52 98 [.t 50,(xi 5),.t 51],xm 4 52]
abbrev o56_13:=[xf 54 1 3,xl 55 54,xo 56 (.bin .eql (.t 55) (.c (.s [101,108,115,101]))),xm 53 56]
abbrev o56_14:=[xm 57 0,xo 58 (.bsl .one [(yi 0)] 2 [(0,1,(xi 1)),(1,1,(xi 2))]),xc 59 98 [.t 57,(xi 6),.t 58],xm 4 59]
abbrev o56_15:=[xm 60 4,xd 61 .geq 60 0]
abbrev o56_16:=[xm 62 0,xm 63 4,xc 64 99 [.t 62,.t 63]]
def a56:AFunc:=⟨(.seq (xr [0,3] o56_0) (.seq (xr [0,3,4] o56_1) (.seq (.block 0 (.seq (xr [0,3,4,5] o56_2) (.cond (.t 5) (xr [0,4] o56_3) (.seq (xr [0,3,4,17] o56_4) (.cond (.t 17) (xr [0,4] o56_5) (.seq (xr [0,3,4,28] o56_6) (.cond (.t 28) .skip (.seq (xr [0,3,4,32] o56_7) (.cond (.t 32) (xr [0,4] o56_8) (.seq (xr [0,3,4,39] o56_9) (.cond (.t 39) (xr [0,4] o56_10) (.seq (xr [0,3,4,46] o56_11) (.cond (.t 46) (xr [0,4] o56_12) (.seq (xr [0,4,53] o56_13) (.cond (.t 53) (xr [0,4] o56_14) .skip))))))))))))))) (.seq (xr [0,4,61] o56_15) (.cond (.t 61) (xr [] o56_16) .skip))))),
  [],false⟩
abbrev o57_0:=[xo 3 (.box (.t 1))]
abbrev o57_1:=[xf 5 0 3,xl 6 5,xd 7 .eql 6 5,xm 8 7,xt 8 9 (.fad 1 (.t 3)),xt 8 10 (.load .one (.t 9)),xt 8 11 (.bin .eql (.t 10) (.c (.s [40]))),xo 12 (.pick (.t 8) (.t 11) (.c (.b false))),xm 4 12]
abbrev o57_2:=[xm 13 0,xc 14 95 [.t 13,(xi 2),(xi 0)]]
abbrev o57_3:=[xf 16 0 3,xl 17 16,xd 18 .eql 17 5,xm 19 18,xt 19 20 (.fad 1 (.t 3)),xt 19 21 (.load .one (.t 20)),xt 19 22 (.bin .eql (.t 21) (.c (.s [123]))),xo 23 (.pick (.t 19) (.t 22) (.c (.b false))),xm 15 23]
abbrev o57_4:=[xm 24 0,xc 25 95 [.t 24,(xi 1),(xi 0)]]
abbrev o57_5:=[xf 27 0 3,xl 28 27,xd 29 .neq 28 6,xm 26 29]
abbrev o57_6:=[xf 31 1 3,xl 32 31,xo 33 (.bin .eql (.t 32) (.c (.s [108,101,116]))),xm 30 33]
abbrev o57_7:=[xm 34 0,xc 35 95 [.t 34,(xi 3),(xi 0)]]
abbrev o57_8:=[xm 36 0,xk 37 36,xf 38 2 37,⟨none,(.store 1 (.t 38) (.c (.b true)) false),none,[]⟩]
abbrev o57_9:=[xf 40 1 3,xl 41 40,xo 42 (.bin .eql (.t 41) (.c (.s [99,97,115,101]))),xm 39 42]
abbrev o57_10:=[xm 43 0,xc 44 95 [.t 43,(xi 4),(xi 0)]]
abbrev o57_11:=[xf 46 1 3,xl 47 46,xo 48 (.bin .eql (.t 47) (.c (.s [111,102]))),xm 45 48]
abbrev o57_12:=[xm 49 0,xk 50 49,xf 51 2 50,⟨none,(.store 1 (.t 51) (.c (.b true)) false),none,[]⟩]
abbrev o57_13:=[xf 53 1 3,xl 54 53,xo 55 (.bin .eql (.t 54) (.c (.s [105,102]))),xm 52 55]
abbrev o57_14:=[xm 56 0,xc 57 95 [.t 56,(xi 5),(xi 0)]]
abbrev o57_15:=[xf 59 1 3,xl 60 59,xo 61 (.bin .eql (.t 60) (.c (.s [116,104,101,110]))),xm 58 61]
abbrev o57_16:=[xm 62 0,xc 63 95 [.t 62,(xi 6),(xi 0)]]
def a57:AFunc:=⟨(.seq (xr [0,3] o57_0) (.block 0 (.seq (xr [0,3,4] o57_1) (.cond (.t 4) (xr [] o57_2) (.seq (xr [0,3,15] o57_3) (.cond (.t 15) (xr [] o57_4) (.seq (xr [0,3,26] o57_5) (.cond (.t 26) .skip (.seq (xr [0,3,30] o57_6) (.cond (.t 30) (.seq (xr [0] o57_7) (xr [] o57_8)) (.seq (xr [0,3,39] o57_9) (.cond (.t 39) (xr [] o57_10) (.seq (xr [0,3,45] o57_11) (.cond (.t 45) (xr [] o57_12) (.seq (xr [0,3,52] o57_13) (.cond (.t 52) (xr [] o57_14) (.seq (xr [0,58] o57_15) (.cond (.t 58) (xr [] o57_16) .skip)))))))))))))))))),
  [],false⟩
abbrev o58_0:=[xm 4 0,xm 5 0,xk 6 5,xf 7 0 6,xl 8 7,xm 9 1,xm 10 0,xk 11 10,xf 12 3 11,xe 13 2 12,xo 14 (.build [(yi 0),(.s []),(yi 0),(yi 0),(yi 0),(.b false)] [(0,1,(xi 5)),(1,1,(.t 9)),(3,2,(.t 13)),(5,1,(.c (.b true)))]),xo 15 (.bsl (.st 6) [(yi 0),(.s []),(yi 0),(yi 0),(yi 0),(.b false)] 1 [(0,6,(.t 14))]),
 xo 16 (.app (.st 6) (.t 8) (.t 15) false),xk 17 4,xf 18 0 17,xs 1 18 16]
def a58:AFunc:=⟨(xr [] o58_0),
  [],false⟩
abbrev o59_0:=[xa 2 [(yi 0),(.s []),(yi 0),(yi 0),(yi 0),(.b false)]]
abbrev o59_1:=[xm 3 0,xk 4 3,xf 5 2 4,xl 6 5,xm 7 6,xu 7 8 (.mv (.t 0)),xu 7 9 (.nck (.t 8)),xu 7 10 (.fad 1 (.t 9)),xu 7 11 (.load .one (.t 10)),xu 7 12 (.mv (.t 0)),xu 7 13 (.nck (.t 12)),xu 7 14 (.fad 0 (.t 13)),xu 7 15 (.load .one (.t 14)),xu 7 16 (.len false (.t 15)),xu 7 17 (.bin .geq (.t 11) (.t 16)),xo 18 (.pick (.t 7) (.c (.b true)) (.t 17))]
abbrev o59_2:=[xo 19 (.build [(yi 0),(.s []),(yi 0),(yi 0),(yi 0),(.b false)] []),xs 6 2 19]
abbrev o59_3:=[xm 20 0,xk 21 20,xf 22 0 21,xl 23 22,xm 24 0,xk 25 24,xf 26 1 25,xl 27 26,xo 28 (.iad (.st 6) (.t 23) (.t 27)),xe 29 6 28,xs 6 2 29]
def a59:AFunc:=⟨(.seq (xr [0,2] o59_0) (.seq (.seq (xr [0,2,18] o59_1) (.cond (.t 18) (.seq (xr [2] o59_2) .ret) .skip)) (.seq (xr [2] o59_3) .ret))),
  [(.t 2,some (.st 6))],false⟩
abbrev o60_0:=[xa 4 [(yi 0),(.s []),(yi 0),(yi 0),(yi 0),(.b false)]]
abbrev o60_1:=[xm 5 0,xm 6 1,xc 7 61 [.t 5,.t 6],xo 8 (.un .not (.t 7))]
abbrev o60_2:=[xm 9 0,xc 10 31 [.t 9,(xi 60)]]
abbrev o60_3:=[xm 11 0,xc 12 30 [.t 11],xs 6 4 12]
def a60:AFunc:=⟨(.seq (xr [0,1,4] o60_0) (.seq (.seq (xr [0,4,8] o60_1) (.cond (.t 8) (xr [0,4] o60_2) .skip)) (.seq (xr [4] o60_3) .ret))),
  [(.t 4,some (.st 6))],false⟩
abbrev o61_0:=[xv 4 (.b false)]
abbrev o61_1:=[xm 5 0,xc 6 59 [.t 5],xo 7 (.fld 0 .one (.t 6)),xm 8 1,xb 9 .eql 7 8,xm 4 9]
def a61:AFunc:=⟨(.seq (xr [0,1] o61_0) (.seq (xr [4] o61_1) .ret)),
  [(.t 4,none)],false⟩
abbrev o62_0:=[xa 2 [(.s []),.nsl,(yi 0),(yi 0)]]
abbrev o62_1:=[xm 5 0,xc 6 60 [.t 5,(xi 2)],xa 3 [(yi 0),(.s []),(yi 0),(yi 0),(yi 0),(.b false)],xs 6 3 6]
abbrev o62_2:=[xf 7 1 3,xl 8 7,xf 9 3 3,xe 10 2 9,xo 11 (.build [(.s []),.nsl,(yi 0),(yi 0)] [(0,1,(.t 8)),(2,2,(.t 10))]),xa 4 [(.s []),.nsl,(yi 0),(yi 0)],xs 4 4 11]
abbrev o62_3:=[xm 12 0,xc 13 100 [.t 12]]
abbrev o62_4:=[xf 14 1 4,xl 15 14,xm 16 0,⟨some 17,(.call (.c (.clo 101 [])) [.t 16] false),none,[(15,none,(.load .one (.t 14)))]⟩,xo 18 (.bsl (.st 4) [(yi 0),(yi 0),(.s []),.nsl] 1 [(0,4,(.t 17))]),xo 19 (.app (.st 4) (.t 15) (.t 18) false),xf 20 1 4,xs 1 20 19]
def l62_0:ACode:=(.loop (.seq (.seq (xr [0,2,4,13] o62_3) (.cond (.t 13) .skip (.exit 0))) (.block 1 (xr [0,2,4] o62_4))))
abbrev o62_5:=[xe 21 4 4,xs 4 2 21]
def a62:AFunc:=⟨(.seq (xr [0,2] o62_0) (.seq (xr [0,2,3] o62_1) (.seq (xr [0,2,4] o62_2) (.seq (.block 0 l62_0) (.seq (xr [2] o62_5) .ret))))),
  [(.t 2,some (.st 4))],true⟩
abbrev o63_0:=[xv 2 (.b false)]
abbrev o63_1:=[xm 3 0,xc 4 61 [.t 3,(xi 1)],xm 5 4,xu 5 6 (.mv (.t 0)),xu 5 7 (.call (.c (.clo 61 [])) [.t 6,(xi 2)] false),xo 8 (.pick (.t 5) (.c (.b true)) (.t 7)),xm 9 8,xu 9 10 (.mv (.t 0)),xu 9 11 (.call (.c (.clo 61 [])) [.t 10,(xi 4)] false),xo 12 (.pick (.t 9) (.c (.b true)) (.t 11)),xm 13 12,xu 13 14 (.mv (.t 0)),
 xu 13 15 (.call (.c (.clo 29 [])) [.t 14,(.c (.s [95]))] false),xo 16 (.pick (.t 13) (.c (.b true)) (.t 15)),xm 17 16,xu 17 18 (.mv (.t 0)),xu 17 19 (.call (.c (.clo 29 [])) [.t 18,(.c (.s [40]))] false),xo 20 (.pick (.t 17) (.c (.b true)) (.t 19)),xm 2 20]
def a63:AFunc:=⟨(.seq (xr [0] o63_0) (.seq (xr [2] o63_1) .ret)),
  [(.t 2,none)],false⟩
abbrev o64_0:=[xa 2 [(yi 0),(.s []),(yi 0),.nsl,(yi 0),(yi 0)]]
abbrev o64_1:=[xm 9 0,xc 10 59 [.t 9],xa 3 [(yi 0),(.s []),(yi 0),(yi 0),(yi 0),(.b false)],xs 6 3 10]
abbrev o64_2:=[xf 12 0 3,xl 13 12,xd 14 .eql 13 1,xm 11 14]
abbrev o64_3:=[xm 15 0,xc 16 30 [.t 15]]
abbrev o64_4:=[xf 17 1 3,xl 18 17,xf 19 3 3,xe 20 2 19,xo 21 (.build [(yi 0),(.s []),(yi 0),.nsl,(yi 0),(yi 0)] [(0,1,(xi 2)),(1,1,(.t 18)),(4,2,(.t 20))]),xs 6 2 21]
abbrev o64_5:=[xf 23 0 3,xl 24 23,xd 25 .eql 24 2,xm 22 25]
abbrev o64_6:=[xm 26 0,xc 27 30 [.t 26]]
abbrev o64_7:=[xf 28 1 3,xl 29 28,xf 30 3 3,xe 31 2 30,xo 32 (.build [(yi 0),(.s []),(yi 0),.nsl,(yi 0),(yi 0)] [(0,1,(xi 4)),(1,1,(.t 29)),(4,2,(.t 31))]),xs 6 2 32]
abbrev o64_8:=[xf 34 0 3,xl 35 34,xd 36 .eql 35 4,xm 33 36]
abbrev o64_9:=[xm 38 0,xc 39 102 [.t 38],xm 37 39,xx 40 37 0,xx 41 37 1,xa 5 [(yi 0),(yi 0)],xm 4 40,xs 2 5 41]
abbrev o64_10:=[xm 42 4,xe 43 2 5,xo 44 (.build [(yi 0),(.s []),(yi 0),.nsl,(yi 0),(yi 0)] [(0,1,(xi 3)),(2,1,(.t 42)),(4,2,(.t 43))]),xs 6 2 44]
abbrev o64_11:=[xm 46 0,xo 47 (.call (.c (.clo 29 [])) [.t 46,(.c (.s [95]))] false),xm 45 47]
abbrev o64_12:=[xm 48 0,xc 49 30 [.t 48]]
abbrev o64_13:=[xf 50 3 3,xe 51 2 50,xo 52 (.build [(yi 0),(.s []),(yi 0),.nsl,(yi 0),(yi 0)] [(0,1,(xi 1)),(4,2,(.t 51))]),xs 6 2 52]
abbrev o64_14:=[xm 54 0,xo 55 (.call (.c (.clo 103 [])) [.t 54,(.c (.s [45])),(xi 4)] false),xm 53 55]
abbrev o64_15:=[xm 57 0,xc 58 104 [.t 57],xm 56 58,xx 59 56 0,xx 60 56 1,xa 7 [(yi 0),(yi 0)],xm 6 59,xs 2 7 60]
abbrev o64_16:=[xm 61 6,xe 62 2 7,xo 63 (.build [(yi 0),(.s []),(yi 0),.nsl,(yi 0),(yi 0)] [(0,1,(xi 3)),(2,1,(.t 61)),(4,2,(.t 62))]),xs 6 2 63]
abbrev o64_17:=[xm 64 0,xo 65 (.call (.c (.clo 15 [])) [.t 64,(.c (.s [40]))] false)]
abbrev o64_18:=[xm 66 0,xc 67 61 [.t 66,(xi 3)]]
abbrev o64_19:=[xm 68 0,xc 69 105 [.t 68]]
abbrev o64_20:=[xm 70 0,xk 71 70,xf 72 2 71,xl 73 72]
abbrev o64_21:=[xo 74 (.build [(yi 0),(.s []),(yi 0),.nsl,(yi 0),(yi 0)] []),xs 6 2 74]
abbrev o64_22:=[xm 75 0,xc 76 106 [.t 75],xa 8 [(yi 0),(.s []),(yi 0),.nsl,(yi 0),(yi 0)],xs 6 8 76]
abbrev o64_23:=[xm 77 0,xo 78 (.call (.c (.clo 15 [])) [.t 77,(.c (.s [41]))] false)]
abbrev o64_24:=[xe 79 6 8,xs 6 2 79]
def a64:AFunc:=⟨(.seq (xr [0,2] o64_0) (.seq (xr [0,2,3] o64_1) (.seq (.block 0 (.seq (xr [0,2,3,11] o64_2) (.cond (.t 11) (.seq (xr [2,3] o64_3) (.seq (xr [2] o64_4) .ret)) (.seq (xr [0,2,3,22] o64_5) (.cond (.t 22) (.seq (xr [2,3] o64_6) (.seq (xr [2] o64_7) .ret)) (.seq (xr [0,2,3,33] o64_8) (.cond (.t 33) (.seq (xr [2,4,5] o64_9) (.seq (xr [2] o64_10) .ret)) (.seq (xr [0,2,3,45] o64_11) (.cond (.t 45) (.seq (xr [2,3] o64_12) (.seq (xr [2] o64_13) .ret)) (.seq (xr [0,2,53] o64_14) (.cond (.t 53) (.seq (xr [2,6,7] o64_15) (.seq (xr [2] o64_16) .ret)) .skip))))))))))) (.seq (xr [0,2] o64_17) (.seq (.seq (xr [0,2,67] o64_18) (.cond (.t 67) (xr [0,2] o64_19) .skip)) (.seq (.seq (xr [0,2,73] o64_20) (.cond (.t 73) (.seq (xr [2] o64_21) .ret) .skip)) (.seq (xr [0,2,8] o64_22) (.seq (xr [2,8] o64_23) (.seq (xr [2] o64_24) .ret))))))))),
  [(.t 2,some (.st 6))],true⟩
abbrev o65_0:=[xv 4 .nsl]
abbrev o65_1:=[xv 5 .nsl]
abbrev o65_2:=[xm 7 0,xo 8 (.call (.c (.clo 29 [])) [.t 7,(.c (.s [124]))] false),xo 9 (.un .not (.t 8))]
abbrev o65_3:=[xm 10 0,xm 11 1,xc 12 15 [.t 10,.t 11]]
abbrev o65_4:=[xm 13 5,xm 14 0,xc 15 107 [.t 14],xo 16 (.build [.nsl,(yi 0),(.s []),(yi 0),.nsl,.nsl,.nsl,.nsl,(yi 0),(yi 0)] [(1,9,(.t 15))]),xo 17 (.bsl (.st 10) [.nsl,(yi 0),(.s []),(yi 0),.nsl,.nsl,.nsl,.nsl,(yi 0),(yi 0)] 1 [(0,10,(.t 16))]),xo 18 (.app (.st 10) (.t 13) (.t 17) false),xm 4 18]
abbrev o65_5:=[xm 19 0,xo 20 (.call (.c (.clo 29 [])) [.t 19,(.c (.s [124]))] false)]
abbrev o65_6:=[xm 21 0,xc 22 30 [.t 21]]
abbrev o65_7:=[xm 23 0,xc 24 107 [.t 23],xa 6 [(yi 0),(.s []),(yi 0),.nsl,.nsl,.nsl,.nsl,(yi 0),(yi 0)],xs 9 6 24]
abbrev o65_8:=[xm 25 0,xm 26 1,xc 27 15 [.t 25,.t 26]]
abbrev o65_9:=[xm 28 5,xe 29 9 6,xo 30 (.bsl (.st 9) [(yi 0),(.s []),(yi 0),.nsl,.nsl,.nsl,.nsl,(yi 0),(yi 0)] 1 [(0,9,(.t 29))]),xm 31 0,⟨some 32,(.call (.c (.clo 107 [])) [.t 31] false),none,[(29,none,(.load (.st 9) (.t 6))),(30,none,(.bsl (.st 9) [(yi 0),(.s []),(yi 0),.nsl,.nsl,.nsl,.nsl,(yi 0),(yi 0)] 1 [(0,9,(.t 29))]))]⟩,
 xo 33 (.build [.nsl,(yi 0),(.s []),(yi 0),.nsl,.nsl,.nsl,.nsl,(yi 0),(yi 0)] [(0,1,(.t 30)),(1,9,(.t 32))]),xo 34 (.bsl (.st 10) [.nsl,(yi 0),(.s []),(yi 0),.nsl,.nsl,.nsl,.nsl,(yi 0),(yi 0)] 1 [(0,10,(.t 33))]),xo 35 (.app (.st 10) (.t 28) (.t 34) false),xm 5 35]
def l65_0:ACode:=(.loop (.trn (.seq (.seq (xr [0,1,5,20] o65_5) (.cond (.t 20) .skip (.exit 0))) (.block 1 (.seq (xr [0,1,5] o65_6) (.seq (xr [0,1,5,6] o65_7) (.seq (xr [0,1,5,6] o65_8) (xr [0,1,5] o65_9))))))))
abbrev o65_10:=[xm 36 5,xm 4 36]
def a65:AFunc:=⟨(.seq (xr [0,1] o65_0) (.seq (xr [0,1,5] o65_1) (.seq (.seq (xr [0,1,5,9] o65_2) (.cond (.t 9) (.seq (xr [0,5] o65_3) (.seq (xr [4] o65_4) .ret)) .skip)) (.seq (.block 0 l65_0) (.seq (xr [4] o65_10) .ret))))),
  [(.t 4,none)],true⟩
abbrev o66_0:=[xo 3 (.box (.t 1)),xa 4 [(yi 0),(.s []),(yi 0),.nsl,.nsl,.nsl,.nsl,(yi 0),(yi 0)]]
abbrev o66_1:=[xm 11 0,xk 12 11,xf 13 1 12,xl 14 13]
abbrev o66_2:=[xe 15 9 3,xs 9 4 15]
abbrev o66_3:=[xf 16 0 3,xl 17 16,xd 18 .eql 17 (-1)]
abbrev o66_4:=[xm 19 0,xe 20 9 3,xc 21 108 [.t 19,.t 20],xs 9 4 21]
abbrev o66_5:=[xm 22 0,xf 23 6 3,xl 24 23,xc 25 17 [.t 22,.t 24],xf 26 6 3,xs 1 26 25]
abbrev o66_6:=[xv 5 .nsl]
abbrev o66_7:=[xf 27 4 3,xl 28 27,xn 29 28,xv 30 (yi 0)]
abbrev o66_8:=[xb 31 .lss 30 29]
abbrev o66_9:=[xo 32 (.iad (.st 9) (.t 28) (.t 30)),xe 33 9 32,xa 7 [(yi 0),(.s []),(yi 0),.nsl,.nsl,.nsl,.nsl,(yi 0),(yi 0)],xs 9 7 33]
abbrev o66_10:=[xm 34 5,xm 35 0,xe 36 9 7,xc 37 66 [.t 35,.t 36],xo 38 (.bsl (.st 9) [(yi 0),(.s []),(yi 0),.nsl,.nsl,.nsl,.nsl,(yi 0),(yi 0)] 1 [(0,9,(.t 37))]),xo 39 (.app (.st 9) (.t 34) (.t 38) false),xm 5 39]
abbrev o66_11:=[xd 40 .add 30 1,xm 30 40]
def l66_0:ACode:=(.loop (.trn (.seq (xr [0,3,4,5,28,29,30,31] o66_8) (.seq (.cond (.t 31) .skip (.exit 0)) (.seq (.block 1 (.seq (xr [0,3,4,5,7,28,29,30] o66_9) (xr [0,3,4,5,28,29,30] o66_10))) (xr [0,3,4,5,28,29,30] o66_11))))))
abbrev o66_12:=[xm 41 5,xf 42 4 3,xs 1 42 41]
abbrev o66_13:=[xf 43 0 3,xl 44 43,xd 45 .eql 44 4]
abbrev o66_14:=[xm 46 5,xo 47 (.iad (.st 9) (.t 46) (xi 0)),xf 48 7 47,xe 49 2 48,xf 50 7 3,xs 2 50 49]
abbrev o66_15:=[xv 8 .nsl]
abbrev o66_16:=[xf 51 5 3,xl 52 51,xn 53 52,xv 54 (yi 0)]
abbrev o66_17:=[xb 55 .lss 54 53]
abbrev o66_18:=[xo 56 (.iad (.st 7) (.t 52) (.t 54)),xe 57 7 56,xa 10 [(yi 0),(.s []),(yi 0),.nsl,(yi 0),(yi 0),.nsl],xs 7 10 57]
abbrev o66_19:=[xm 58 0,xf 59 6 10,xl 60 59,xc 61 35 [.t 58,.t 60],xf 62 6 10,xs 1 62 61]
abbrev o66_20:=[xm 63 8,xe 64 7 10,xo 65 (.bsl (.st 7) [(yi 0),(.s []),(yi 0),.nsl,(yi 0),(yi 0),.nsl] 1 [(0,7,(.t 64))]),xo 66 (.app (.st 7) (.t 63) (.t 65) false),xm 8 66]
abbrev o66_21:=[xd 67 .add 54 1,xm 54 67]
def l66_1:ACode:=(.loop (.trn (.seq (xr [0,3,4,8,52,53,54,55] o66_17) (.seq (.cond (.t 55) .skip (.exit 2)) (.seq (.block 3 (.seq (xr [0,3,4,8,10,52,53,54] o66_18) (.seq (xr [0,3,4,8,10,52,53,54] o66_19) (xr [0,3,4,8,52,53,54] o66_20)))) (xr [0,3,4,8,52,53,54] o66_21))))))
abbrev o66_22:=[xm 68 8,xf 69 5 3,xs 1 69 68]
abbrev o66_23:=[xe 70 9 3,xs 9 4 70]
def a66:AFunc:=⟨(.seq (xr [0,3,4] o66_0) (.seq (.seq (xr [0,3,4,14] o66_1) (.cond (.t 14) (.seq (xr [4] o66_2) .ret) .skip)) (.seq (.seq (xr [0,3,4,18] o66_3) (.cond (.t 18) (.seq (xr [4] o66_4) .ret) .skip)) (.seq (xr [0,3,4] o66_5) (.seq (xr [0,3,4,5] o66_6) (.seq (.seq (xr [0,3,4,5,28,29,30] o66_7) (.block 0 l66_0)) (.seq (xr [0,3,4,5] o66_12) (.seq (.seq (xr [0,3,4,5,45] o66_13) (.cond (.t 45) (xr [0,3,4] o66_14) .skip)) (.seq (xr [0,3,4,8] o66_15) (.seq (.seq (xr [0,3,4,8,52,53,54] o66_16) (.block 2 l66_1)) (.seq (xr [3,4] o66_22) (.seq (xr [4] o66_23) .ret)))))))))))),
  [(.t 4,some (.st 9))],true⟩
abbrev o67_0:=[xv 2 (.b false)]
abbrev o67_1:=[xm 3 0,xc 4 68 [.t 3,(xi 1)],xm 2 4]
def a67:AFunc:=⟨(.seq (xr [0] o67_0) (.seq (xr [2] o67_1) .ret)),
  [(.t 2,none)],false⟩
abbrev o68_0:=[xv 4 (.b false)]
abbrev o68_1:=[xm 8 0,xc 9 109 [.t 8],xm 7 9,xx 10 7 0,xx 11 7 1,xa 5 [(yi 0),(.s []),(yi 0),(yi 0),(yi 0),(.b false)],xs 6 5 10,xm 6 11]
abbrev o68_2:=[xm 12 6,xm 13 12,xt 13 14 (.fad 0 (.t 5)),xt 13 15 (.load .one (.t 14)),xt 13 16 (.mv (.t 1)),xt 13 17 (.bin .eql (.t 15) (.t 16)),xo 18 (.pick (.t 13) (.t 17) (.c (.b false))),xm 4 18]
def a68:AFunc:=⟨(.seq (xr [0,1] o68_0) (.seq (xr [1,5,6] o68_1) (.seq (xr [4] o68_2) .ret))),
  [(.t 4,none)],false⟩
abbrev o69_0:=[xv 4 (.b false)]
abbrev o69_1:=[xm 7 0,xn 8 7,xv 9 (yi 0)]
abbrev o69_2:=[xb 10 .lss 9 8]
abbrev o69_3:=[xq 11 7 9,xl 12 11,xm 6 12]
abbrev o69_4:=[xm 13 1,xm 14 6,xo 15 (.call (.t 13) [.t 14] false),xo 16 (.un .not (.t 15))]
abbrev o69_5:=[xv 4 (.b false)]
abbrev o69_6:=[xd 17 .add 9 1,xm 9 17]
def l69_0:ACode:=(.loop (.seq (xr [1,7,8,9,10] o69_2) (.seq (.cond (.t 10) .skip (.exit 0)) (.seq (.block 1 (.seq (xr [1,6,7,8,9] o69_3) (.seq (xr [1,7,8,9,16] o69_4) (.cond (.t 16) (.seq (xr [4] o69_5) .ret) .skip)))) (xr [1,7,8,9] o69_6)))))
abbrev o69_7:=[xv 4 (.b true)]
def a69:AFunc:=⟨(.seq (xr [0,1] o69_0) (.seq (.seq (xr [1,7,8,9] o69_1) (.block 0 l69_0)) (.seq (xr [4] o69_7) .ret))),
  [(.t 4,none)],false⟩
abbrev o70_0:=[xv 4 (.b false)]
abbrev o70_1:=[xm 7 0,xn 8 7,xv 9 (yi 0)]
abbrev o70_2:=[xb 10 .lss 9 8]
abbrev o70_3:=[xo 11 (.iad (.st 4) (.t 7) (.t 9)),xe 12 4 11,xa 6 [(.s []),.nsl,(yi 0),(yi 0)],xs 4 6 12]
abbrev o70_4:=[xm 13 1,xe 14 4 6,xo 15 (.call (.t 13) [.t 14] false),xo 16 (.un .not (.t 15))]
abbrev o70_5:=[xv 4 (.b false)]
abbrev o70_6:=[xd 17 .add 9 1,xm 9 17]
def l70_0:ACode:=(.loop (.trn (.seq (xr [1,7,8,9,10] o70_2) (.seq (.cond (.t 10) .skip (.exit 0)) (.seq (.block 1 (.seq (xr [1,6,7,8,9] o70_3) (.seq (xr [1,7,8,9,16] o70_4) (.cond (.t 16) (.seq (xr [4] o70_5) .ret) .skip)))) (xr [1,7,8,9] o70_6))))))
abbrev o70_7:=[xv 4 (.b true)]
def a70:AFunc:=⟨(.seq (xr [0,1] o70_0) (.seq (.seq (xr [1,7,8,9] o70_1) (.block 0 l70_0)) (.seq (xr [4] o70_7) .ret))),
  [(.t 4,none)],false⟩
abbrev o71_0:=[xo 1 (.box (.t 0)),xv 2 (.b false)]
abbrev o71_1:=[xf 3 0 1,xl 4 3,xc 5 68 [.t 4,(xi 2)],xm 6 5,xt 6 7 (.fad 1 (.t 1)),xt 6 8 (.load .one (.t 7)),xt 6 9 (.call (.c (.clo 72 [])) [.t 8,(.c (.clo 73 []))] false),xo 10 (.pick (.t 6) (.t 9) (.c (.b false))),xm 2 10]
def a71:AFunc:=⟨(.seq (xr [1] o71_0) (.seq (xr [2] o71_1) .ret)),
  [(.t 2,none)],false⟩
abbrev o72_0:=[xv 4 (.b false)]
abbrev o72_1:=[xm 7 0,xn 8 7,xv 9 (yi 0)]
abbrev o72_2:=[xb 10 .lss 9 8]
abbrev o72_3:=[xo 11 (.iad (.st 4) (.t 7) (.t 9)),xe 12 4 11,xa 6 [(yi 0),(yi 0),(.s []),.nsl],xs 4 6 12]
abbrev o72_4:=[xm 13 1,xe 14 4 6,xo 15 (.call (.t 13) [.t 14] false),xo 16 (.un .not (.t 15))]
abbrev o72_5:=[xv 4 (.b false)]
abbrev o72_6:=[xd 17 .add 9 1,xm 9 17]
def l72_0:ACode:=(.loop (.trn (.seq (xr [1,7,8,9,10] o72_2) (.seq (.cond (.t 10) .skip (.exit 0)) (.seq (.block 1 (.seq (xr [1,6,7,8,9] o72_3) (.seq (xr [1,7,8,9,16] o72_4) (.cond (.t 16) (.seq (xr [4] o72_5) .ret) .skip)))) (xr [1,7,8,9] o72_6))))))
abbrev o72_7:=[xv 4 (.b true)]
def a72:AFunc:=⟨(.seq (xr [0,1] o72_0) (.seq (.seq (xr [1,7,8,9] o72_1) (.block 0 l72_0)) (.seq (xr [4] o72_7) .ret))),
  [(.t 4,none)],false⟩
abbrev o73_0:=[xo 1 (.box (.t 0)),xv 2 (.b false)]
abbrev o73_1:=[xf 3 1 1,xl 4 3,xd 5 .neq 4 0]
abbrev o73_2:=[xv 2 (.b false)]
abbrev o73_3:=[xf 6 0 1,xl 7 6]
abbrev o73_4:=[xd 9 .eql 7 1,xm 8 9]
abbrev o73_5:=[xf 10 2 1,xl 11 10,xc 12 68 [.t 11,(xi 1)],xm 13 12,xt 13 14 (.fad 3 (.t 1)),xt 13 15 (.load .one (.t 14)),xt 13 16 (.len false (.t 15)),xt 13 17 (.bin .eql (.t 16) (xi 0)),xo 18 (.pick (.t 13) (.t 17) (.c (.b false))),xm 2 18]
abbrev o73_6:=[xd 20 .eql 7 2,xm 19 20]
abbrev o73_7:=[xf 21 2 1,xl 22 21,xc 23 68 [.t 22,(xi 2)],xm 24 23,xt 24 25 (.fad 3 (.t 1)),xt 24 26 (.load .one (.t 25)),xt 24 27 (.call (.c (.clo 72 [])) [.t 26,(.c (.clo 73 []))] false),xo 28 (.pick (.t 24) (.t 27) (.c (.b false))),xm 2 28]
abbrev o73_8:=[xd 30 .eql 7 3,xm 29 30]
abbrev o73_9:=[xf 31 2 1,xl 32 31,xo 33 (.bin .eql (.t 32) (.c (.s []))),xm 34 33,xt 34 35 (.fad 3 (.t 1)),xt 34 36 (.load .one (.t 35)),xt 34 37 (.len false (.t 36)),xt 34 38 (.bin .eql (.t 37) (xi 2)),xo 39 (.pick (.t 34) (.t 38) (.c (.b false))),xm 40 39,xt 40 41 (.fad 3 (.t 1)),xt 40 42 (.load .one (.t 41)),
 xt 40 43 (.call (.c (.clo 72 [])) [.t 42,(.c (.clo 73 []))] false),xo 44 (.pick (.t 40) (.t 43) (.c (.b false))),xm 2 44]
abbrev o73_10:=[xv 2 (.b false)]
def a73:AFunc:=⟨(.seq (xr [1] o73_0) (.seq (.seq (xr [1,5] o73_1) (.cond (.t 5) (.seq (xr [2] o73_2) .ret) .skip)) (.seq (.seq (xr [1,7] o73_3) (.block 0 (.seq (xr [1,7,8] o73_4) (.cond (.t 8) (.seq (xr [2] o73_5) .ret) (.seq (xr [1,7,19] o73_6) (.cond (.t 19) (.seq (xr [2] o73_7) .ret) (.seq (xr [1,29] o73_8) (.cond (.t 29) (.seq (xr [2] o73_9) .ret) .skip)))))))) (.seq (xr [2] o73_10) .ret)))),
  [(.t 2,none)],false⟩
abbrev o74_0:=[xv 2 (.b false)]
abbrev o74_1:=[xm 3 0,xc 4 68 [.t 3,(xi 1)],xm 5 4,xu 5 6 (.mv (.t 0)),xu 5 7 (.call (.c (.clo 68 [])) [.t 6,(xi 3)] false),xo 8 (.pick (.t 5) (.c (.b true)) (.t 7)),xm 2 8]
def a74:AFunc:=⟨(.seq (xr [0] o74_0) (.seq (xr [2] o74_1) .ret)),
  [(.t 2,none)],false⟩
abbrev o75_0:=[xv 4 (.b false)]
abbrev o75_1:=[xm 7 0,xn 8 7,xv 9 (yi 0)]
abbrev o75_2:=[xb 10 .lss 9 8]
abbrev o75_3:=[xo 11 (.iad (.st 6) (.t 7) (.t 9)),xe 12 6 11,xa 6 [(yi 0),(.s []),(yi 0),.nsl,(yi 0),(yi 0)],xs 6 6 12]
abbrev o75_4:=[xm 13 1,xe 14 6 6,xo 15 (.call (.t 13) [.t 14] false),xo 16 (.un .not (.t 15))]
abbrev o75_5:=[xv 4 (.b false)]
abbrev o75_6:=[xd 17 .add 9 1,xm 9 17]
def l75_0:ACode:=(.loop (.trn (.seq (xr [1,7,8,9,10] o75_2) (.seq (.cond (.t 10) .skip (.exit 0)) (.seq (.block 1 (.seq (xr [1,6,7,8,9] o75_3) (.seq (xr [1,7,8,9,16] o75_4) (.cond (.t 16) (.seq (xr [4] o75_5) .ret) .skip)))) (xr [1,7,8,9] o75_6))))))
abbrev o75_7:=[xv 4 (.b true)]
def a75:AFunc:=⟨(.seq (xr [0,1] o75_0) (.seq (.seq (xr [1,7,8,9] o75_1) (.block 0 l75_0)) (.seq (xr [4] o75_7) .ret))),
  [(.t 4,none)],false⟩
abbrev o76_0:=[xo 1 (.box (.t 0)),xv 2 (.b false)]
abbrev o76_1:=[xf 3 0 1,xl 4 3]
abbrev o76_2:=[xd 6 .eql 4 1,xm 5 6]
abbrev o76_3:=[xf 7 1 1,xl 8 7,xo 9 (.bin .eql (.t 8) (.c (.s []))),xm 10 9,xt 10 11 (.fad 2 (.t 1)),xt 10 12 (.load .one (.t 11)),xt 10 13 (.bin .eql (.t 12) (xi 0)),xo 14 (.pick (.t 10) (.t 13) (.c (.b false))),xm 15 14,xt 15 16 (.fad 3 (.t 1)),xt 15 17 (.load .one (.t 16)),xt 15 18 (.len false (.t 17)),xt 15 19 (.bin .eql (.t 18) (xi 0)),
 xo 20 (.pick (.t 15) (.t 19) (.c (.b false))),xm 2 20]
abbrev o76_4:=[xd 22 .eql 4 2,xm 21 22]
abbrev o76_5:=[xf 23 1 1,xl 24 23,xc 25 68 [.t 24,(xi 1)],xm 26 25,xt 26 27 (.fad 2 (.t 1)),xt 26 28 (.load .one (.t 27)),xt 26 29 (.bin .eql (.t 28) (xi 0)),xo 30 (.pick (.t 26) (.t 29) (.c (.b false))),xm 31 30,xt 31 32 (.fad 3 (.t 1)),xt 31 33 (.load .one (.t 32)),xt 31 34 (.len false (.t 33)),xt 31 35 (.bin .eql (.t 34) (xi 0)),
 xo 36 (.pick (.t 31) (.t 35) (.c (.b false))),xm 2 36]
abbrev o76_6:=[xd 38 .eql 4 3,xm 37 38]
abbrev o76_7:=[xf 39 1 1,xl 40 39,xo 41 (.bin .eql (.t 40) (.c (.s []))),xm 42 41,xt 42 43 (.fad 3 (.t 1)),xt 42 44 (.load .one (.t 43)),xt 42 45 (.len false (.t 44)),xt 42 46 (.bin .eql (.t 45) (xi 0)),xo 47 (.pick (.t 42) (.t 46) (.c (.b false))),xm 2 47]
abbrev o76_8:=[xd 49 .eql 4 4,xm 48 49]
abbrev o76_9:=[xf 50 1 1,xl 51 50,xc 52 68 [.t 51,(xi 2)],xm 53 52,xt 53 54 (.fad 2 (.t 1)),xt 53 55 (.load .one (.t 54)),xt 53 56 (.bin .eql (.t 55) (xi 0)),xo 57 (.pick (.t 53) (.t 56) (.c (.b false))),xm 58 57,xt 58 59 (.fad 3 (.t 1)),xt 58 60 (.load .one (.t 59)),xt 58 61 (.call (.c (.clo 75 [])) [.t 60,(.c (.clo 76 []))] false),
 xo 62 (.pick (.t 58) (.t 61) (.c (.b false))),xm 2 62]
abbrev o76_10:=[xv 2 (.b false)]
def a76:AFunc:=⟨(.seq (xr [1] o76_0) (.seq (.seq (xr [1,4] o76_1) (.block 0 (.seq (xr [1,4,5] o76_2) (.cond (.t 5) (.seq (xr [2] o76_3) .ret) (.seq (xr [1,4,21] o76_4) (.cond (.t 21) (.seq (xr [2] o76_5) .ret) (.seq (xr [1,4,37] o76_6) (.cond (.t 37) (.seq (xr [2] o76_7) .ret) (.seq (xr [1,48] o76_8) (.cond (.t 48) (.seq (xr [2] o76_9) .ret) .skip)))))))))) (.seq (xr [2] o76_10) .ret))),
  [(.t 2,none)],false⟩
abbrev o77_0:=[xv 2 (.b false)]
abbrev o77_1:=[xm 3 0,xn 4 3,xd 5 .eql 4 1,xm 6 5,xt 6 7 (.mv (.t 0)),xt 6 8 (.iad (.st 10) (.t 7) (xi 0)),xt 6 9 (.fad 0 (.t 8)),xt 6 10 (.load .one (.t 9)),xt 6 11 (.len false (.t 10)),xt 6 12 (.bin .eql (.t 11) (xi 0)),xo 13 (.pick (.t 6) (.t 12) (.c (.b false)))]
abbrev o77_2:=[xm 14 0,xo 15 (.iad (.st 10) (.t 14) (xi 0)),xf 16 1 15,xe 17 9 16,xc 18 110 [.t 17],xm 2 18]
abbrev o77_3:=[xm 19 0,xn 20 19,xd 21 .gtr 20 0,xm 22 21,xt 22 23 (.mv (.t 0)),xt 22 24 (.call (.c (.clo 111 [])) [.t 23,(.c (.clo 112 []))] false),xo 25 (.pick (.t 22) (.t 24) (.c (.b false))),xm 2 25]
def a77:AFunc:=⟨(.seq (xr [0] o77_0) (.seq (.seq (xr [0,13] o77_1) (.cond (.t 13) (.seq (xr [2] o77_2) .ret) .skip)) (.seq (xr [2] o77_3) .ret))),
  [(.t 2,none)],false⟩
abbrev o78_0:=[xo 3 (.box (.t 1))]
abbrev o78_1:=[xm 4 0,xk 5 4,xf 6 1 5,xl 7 6,xf 8 0 3,xl 9 8,xe 10 5 3,⟨none,(.upd (.t 7) (.t 9) (.t 10) false),none,[]⟩]
abbrev o78_2:=[xm 11 0,xm 12 0,xk 13 12,xf 14 2 13,xl 15 14,xf 16 0 3,xl 17 16,xo 18 (.bsl .one [(.s [])] 1 [(0,1,(.t 17))]),xo 19 (.app .one (.t 15) (.t 18) false),xk 20 11,xf 21 2 20,xs 1 21 19]
def a78:AFunc:=⟨(.seq (xr [0,3] o78_0) (.seq (xr [0,3] o78_1) (xr [] o78_2))),
  [],false⟩
abbrev o79_0:=[xv 4 (yi 0)]
abbrev o79_1:=[xm 7 0,xn 8 7,xv 9 (yi 0)]
abbrev o79_2:=[xb 10 .lss 9 8]
abbrev o79_3:=[xm 11 9,xq 12 7 9,xl 13 12,xm 5 11,xm 6 13]
abbrev o79_4:=[xm 14 6,xm 15 1,xb 16 .eql 14 15]
abbrev o79_5:=[xm 17 5,xm 4 17]
abbrev o79_6:=[xd 18 .add 9 1,xm 9 18]
def l79_0:ACode:=(.loop (.seq (xr [1,7,8,9,10] o79_2) (.seq (.cond (.t 10) .skip (.exit 0)) (.seq (.block 1 (.seq (xr [1,5,6,7,8,9] o79_3) (.seq (xr [1,5,7,8,9,16] o79_4) (.cond (.t 16) (.seq (xr [4] o79_5) .ret) .skip)))) (xr [1,7,8,9] o79_6)))))
abbrev o79_7:=[xv 4 (yi (-1))]
def a79:AFunc:=⟨(.seq (xr [0,1] o79_0) (.seq (.seq (xr [1,7,8,9] o79_1) (.block 0 l79_0)) (.seq (xr [4] o79_7) .ret))),
  [(.t 4,none)],false⟩
abbrev o80_0:=[xo 5 (.box (.t 2)),xa 6 [(yi 0),(yi 0),(.s []),.nsl],xv 7 (yi 0)]
abbrev o80_1:=[xf 16 0 5,xl 17 16]
abbrev o80_2:=[xd 20 .eql 17 1,xm 19 20]
abbrev o80_3:=[xm 21 1,xf 22 2 5,xl 23 22,xc 24 79 [.t 21,.t 23],xm 8 24]
abbrev o80_4:=[xm 25 8,xd 26 .lss 25 0]
abbrev o80_5:=[xe 27 4 5,xs 4 6 27,xv 7 (yi 81)]
abbrev o80_6:=[xm 28 8,xo 29 (.build [(yi 0),(yi 0),(.s []),.nsl] [(0,1,(xi 1)),(1,1,(.t 28))]),xs 4 6 29,xv 7 (yi 0)]
abbrev o80_7:=[xd 31 .eql 17 2,xm 30 31]
abbrev o80_8:=[xm 33 0,xk 34 33,xf 35 0 34,xl 36 35,xf 37 2 5,xl 38 37,xo 39 (.look (yi 0) (.t 36) (.t 38) true),xm 32 39,xx 40 32 0,xx 41 32 1,xm 9 40,xm 10 41]
abbrev o80_9:=[xm 42 10,xo 43 (.un .not (.t 42))]
abbrev o80_10:=[xe 44 4 5,xs 4 6 44,xv 7 (yi 81)]
abbrev o80_11:=[xm 45 9,xf 46 3 5,xl 47 46,xn 48 47,xb 49 .neq 45 48]
abbrev o80_12:=[xe 50 4 5,xs 4 6 50,xv 7 (yi 82)]
abbrev o80_13:=[xd 52 .eql 17 3,xm 51 52]
abbrev o80_14:=[xf 53 3 5,xl 54 53,xn 55 54,xd 56 .neq 55 2]
abbrev o80_15:=[xe 57 4 5,xs 4 6 57,xv 7 (yi 82)]
abbrev o80_16:=[xe 18 4 5,xs 4 6 18,xv 7 (yi 82)]
abbrev o80_17:=[xf 58 0 5,xl 59 58,xo 60 (.build [(yi 0),(yi 0),(.s []),.nsl] [(0,1,(.t 59))]),xa 11 [(yi 0),(yi 0),(.s []),.nsl],xs 4 11 60]
abbrev o80_18:=[xf 61 0 5,xl 62 61,xd 63 .eql 62 2]
abbrev o80_19:=[xf 64 2 5,xl 65 64,xf 66 2 11,xs 1 66 65]
abbrev o80_20:=[xf 67 3 5,xl 68 67,xn 69 68,xv 70 (yi 0)]
abbrev o80_21:=[xb 71 .lss 70 69]
abbrev o80_22:=[xo 72 (.iad (.st 4) (.t 68) (.t 70)),xe 73 4 72,xa 13 [(yi 0),(yi 0),(.s []),.nsl],xs 4 13 73]
abbrev o80_23:=[xm 75 0,xm 76 1,xe 77 4 13,xc 78 80 [.t 75,.t 76,.t 77],xm 74 78,xx 79 74 0,xx 80 74 1,xa 14 [(yi 0),(yi 0),(.s []),.nsl],xs 4 14 79,xm 15 80]
abbrev o80_24:=[xm 81 15,xd 82 .neq 81 0]
abbrev o80_25:=[xe 83 4 5,xm 84 15,xs 4 6 83,xm 7 84]
abbrev o80_26:=[xf 85 3 11,xl 86 85,xe 87 4 14,xo 88 (.bsl (.st 4) [(yi 0),(yi 0),(.s []),.nsl] 1 [(0,4,(.t 87))]),xo 89 (.app (.st 4) (.t 86) (.t 88) false),xf 90 3 11,xs 1 90 89]
abbrev o80_27:=[xd 91 .add 70 1,xm 70 91]
def l80_0:ACode:=(.loop (.trn (.seq (xr [0,1,5,6,11,68,69,70,71] o80_21) (.seq (.cond (.t 71) .skip (.exit 1)) (.seq (.block 2 (.seq (xr [0,1,5,6,11,13,68,69,70] o80_22) (.seq (xr [0,1,5,6,11,14,15,68,69,70] o80_23) (.seq (.seq (xr [0,1,5,6,11,14,15,68,69,70,82] o80_24) (.cond (.t 82) (.seq (xr [6,7] o80_25) .ret) .skip)) (xr [0,1,5,6,11,68,69,70] o80_26))))) (xr [0,1,5,6,11,68,69,70] o80_27))))))
abbrev o80_28:=[xe 92 4 11,xs 4 6 92,xv 7 (yi 0)]
def a80:AFunc:=⟨(.seq (xr [0,1,5,6] o80_0) (.seq (.seq (xr [0,1,5,6,17] o80_1) (.block 0 (.seq (xr [0,1,5,6,17,19] o80_2) (.cond (.t 19) (.seq (xr [5,6,8] o80_3) (.seq (.seq (xr [5,6,8,26] o80_4) (.cond (.t 26) (.seq (xr [6,7] o80_5) .ret) .skip)) (.seq (xr [6,7] o80_6) .ret))) (.seq (xr [0,1,5,6,17,30] o80_7) (.cond (.t 30) (.seq (xr [0,1,5,6,9,10] o80_8) (.seq (.seq (xr [0,1,5,6,9,43] o80_9) (.cond (.t 43) (.seq (xr [6,7] o80_10) .ret) .skip)) (.seq (xr [0,1,5,6,49] o80_11) (.cond (.t 49) (.seq (xr [6,7] o80_12) .ret) .skip)))) (.seq (xr [0,1,5,6,51] o80_13) (.cond (.t 51) (.seq (xr [0,1,5,6,56] o80_14) (.cond (.t 56) (.seq (xr [6,7] o80_15) .ret) .skip)) (.seq (xr [6,7] o80_16) .ret))))))))) (.seq (xr [0,1,5,6,11] o80_17) (.seq (.seq (xr [0,1,5,6,11,63] o80_18) (.cond (.t 63) (xr [0,1,5,6,11] o80_19) .skip)) (.seq (.seq (xr [0,1,5,6,11,68,69,70] o80_20) (.block 1 l80_0)) (.seq (xr [6,7] o80_28) .ret)))))),
  [(.t 6,some (.st 4)),(.t 7,none)],true⟩
abbrev o81_0:=[xv 2 (.s [])]
abbrev o81_1:=[xm 3 0]
abbrev o81_2:=[xd 5 .eql 3 1,xm 4 5]
abbrev o81_3:=[xv 2 (.s [43])]
abbrev o81_4:=[xd 7 .eql 3 2,xm 6 7]
abbrev o81_5:=[xv 2 (.s [45])]
abbrev o81_6:=[xd 9 .eql 3 3,xm 8 9]
abbrev o81_7:=[xv 2 (.s [42])]
abbrev o81_8:=[xd 11 .eql 3 4,xm 10 11]
abbrev o81_9:=[xv 2 (.s [47])]
abbrev o81_10:=[xd 13 .eql 3 5,xm 12 13]
abbrev o81_11:=[xv 2 (.s [37])]
abbrev o81_12:=[xd 15 .eql 3 6,xm 14 15]
abbrev o81_13:=[xv 2 (.s [61,61])]
abbrev o81_14:=[xd 17 .eql 3 7,xm 16 17]
abbrev o81_15:=[xv 2 (.s [47,61])]
abbrev o81_16:=[xd 19 .eql 3 8,xm 18 19]
abbrev o81_17:=[xv 2 (.s [60])]
abbrev o81_18:=[xd 21 .eql 3 9,xm 20 21]
abbrev o81_19:=[xv 2 (.s [60,61])]
abbrev o81_20:=[xd 23 .eql 3 10,xm 22 23]
abbrev o81_21:=[xv 2 (.s [62])]
abbrev o81_22:=[xd 25 .eql 3 11,xm 24 25]
abbrev o81_23:=[xv 2 (.s [62,61])]
abbrev o81_24:=[xv 2 (.s [])]
def a81:AFunc:=⟨(.seq (xr [0] o81_0) (.seq (.seq (xr [3] o81_1) (.block 0 (.seq (xr [3,4] o81_2) (.cond (.t 4) (.seq (xr [2] o81_3) .ret) (.seq (xr [3,6] o81_4) (.cond (.t 6) (.seq (xr [2] o81_5) .ret) (.seq (xr [3,8] o81_6) (.cond (.t 8) (.seq (xr [2] o81_7) .ret) (.seq (xr [3,10] o81_8) (.cond (.t 10) (.seq (xr [2] o81_9) .ret) (.seq (xr [3,12] o81_10) (.cond (.t 12) (.seq (xr [2] o81_11) .ret) (.seq (xr [3,14] o81_12) (.cond (.t 14) (.seq (xr [2] o81_13) .ret) (.seq (xr [3,16] o81_14) (.cond (.t 16) (.seq (xr [2] o81_15) .ret) (.seq (xr [3,18] o81_16) (.cond (.t 18) (.seq (xr [2] o81_17) .ret) (.seq (xr [3,20] o81_18) (.cond (.t 20) (.seq (xr [2] o81_19) .ret) (.seq (xr [3,22] o81_20) (.cond (.t 22) (.seq (xr [2] o81_21) .ret) (.seq (xr [24] o81_22) (.cond (.t 24) (.seq (xr [2] o81_23) .ret) .skip)))))))))))))))))))))))) (.seq (xr [2] o81_24) .ret))),
  [(.t 2,none)],false⟩
abbrev o82_0:=[xo 3 (.box (.t 0)),xo 5 (.box (.t 2))]
abbrev o82_1:=[xv 6 .nsl]
abbrev o82_2:=[xm 9 1,xn 10 9,xv 11 (yi 0)]
abbrev o82_3:=[xb 12 .lss 11 10]
abbrev o82_4:=[xo 13 (.iad (.st 6) (.t 9) (.t 11)),xe 14 6 13,xa 8 [(yi 0),(.s []),(yi 0),.nsl,(yi 0),(yi 0)],xs 6 8 14]
abbrev o82_5:=[xl 15 3,xe 16 6 8,xm 17 6,xc 18 113 [.t 15,.t 16,.t 17],xm 6 18]
abbrev o82_6:=[xd 19 .add 11 1,xm 11 19]
def l82_0:ACode:=(.loop (.trn (.seq (xr [3,5,6,9,10,11,12] o82_3) (.seq (.cond (.t 12) .skip (.exit 0)) (.seq (.block 1 (.seq (xr [3,5,6,8,9,10,11] o82_4) (xr [3,5,6,9,10,11] o82_5))) (xr [3,5,6,9,10,11] o82_6))))))
abbrev o82_7:=[xl 20 3,xm 21 6,xo 22 (.mkf 114 [.t 3,.t 5]),xc 23 45 [.t 20,.t 21,.t 22]]
def a82:AFunc:=⟨(.seq (xr [1,3,5] o82_0) (.seq (xr [1,3,5,6] o82_1) (.seq (.seq (xr [3,5,6,9,10,11] o82_2) (.block 0 l82_0)) (xr [] o82_7)))),
  [],false⟩
abbrev o83_0:=[xm 10 0,xm 11 1,xc 12 116 [.t 10,.t 11],xo 13 (.bsl (.st 2) [(yi 0),(yi 0)] 1 [(0,2,(.t 12))]),xm 4 13]
abbrev o83_1:=[xm 14 4,xn 15 14,xd 16 .gtr 15 0]
abbrev o83_2:=[xm 17 4,xm 18 4,xn 19 18,xd 20 .sub 19 1,xo 21 (.iad (.st 2) (.t 17) (.t 20)),xm 5 21]
abbrev o83_3:=[xm 22 5,xk 23 22,xf 24 1 23,xl 25 24,xm 26 0,xk 27 26,xf 28 0 27,xl 29 28,xm 30 5,xk 31 30,xf 32 0 31,xl 33 32,xq 34 29 33,xl 35 34,xn 36 35,xb 37 .lss 25 36]
abbrev o83_4:=[xm 38 0,xk 39 38,xf 40 0 39,xl 41 40,xm 42 5,xk 43 42,xf 44 0 43,xl 45 44,xq 46 41 45,xl 47 46,xm 48 5,xk 49 48,xf 50 1 49,xl 51 50,xq 52 47 51,xl 53 52,xm 6 53]
abbrev o83_5:=[xm 54 5,xk 55 54,xf 56 1 55,xl 57 56,xd 58 .add 57 1,xk 59 54,xf 60 1 59,xs 1 60 58]
abbrev o83_6:=[xm 62 0,xk 63 62,xf 64 1 63,xl 65 64,xm 66 6,xq 67 65 66,xl 68 67,xd 69 .eql 68 0,xm 61 69]
abbrev o83_7:=[xm 70 4,xm 71 0,xm 72 6,xc 73 116 [.t 71,.t 72],xo 74 (.bsl (.st 2) [(yi 0),(yi 0)] 1 [(0,2,(.t 73))]),xo 75 (.app (.st 2) (.t 70) (.t 74) false),xm 4 75]
abbrev o83_8:=[xm 77 0,xk 78 77,xf 79 4 78,xl 80 79,xm 81 6,xq 82 80 81,xl 83 82,xm 76 83]
abbrev o83_9:=[xm 84 0,xk 85 84,xf 86 2 85,xl 87 86,xm 88 5,xk 89 88,xf 90 0 89,xl 91 90,xm 92 0,xk 93 92,xf 94 2 93,xl 95 94,xm 96 5,xk 97 96,xf 98 0 97,xl 99 98,xq 100 95 99,xl 101 100,xm 102 0,xk 103 102,xf 104 1 103,xl 105 104,xm 106 6,xq 107 105 106,xl 108 107,xo 109 (.min (.t 101) (.t 108)),xq 110 87 91,xs 1 110 109]
def l83_0:ACode:=(.loop (.seq (.seq (xr [0,4,5,37] o83_3) (.cond (.t 37) .skip (.exit 2))) (.block 3 (.seq (xr [0,4,5,6] o83_4) (.seq (xr [0,4,5,6] o83_5) (.block 4 (.seq (xr [0,4,5,6,61] o83_6) (.cond (.t 61) (.seq (xr [0,4] o83_7) (.exit 1)) (.seq (xr [0,4,5,6,76] o83_8) (.cond (.t 76) (xr [0,4,5] o83_9) .skip))))))))))
abbrev o83_10:=[xm 111 5,xk 112 111,xf 113 0 112,xl 114 113,xm 7 114]
abbrev o83_11:=[xm 115 4,xm 116 4,xn 117 116,xd 118 .sub 117 1,xo 119 (.slc false (.t 115) none (some (.t 118))),xm 4 119]
abbrev o83_12:=[xm 120 4,xn 121 120,xm 8 121]
abbrev o83_13:=[xm 122 8,xd 123 .gtr 122 0]
abbrev o83_14:=[xm 124 4,xm 125 8,xd 126 .sub 125 1,xo 127 (.iad (.st 2) (.t 124) (.t 126)),xf 128 0 127,xl 129 128,xm 9 129]
abbrev o83_15:=[xm 130 0,xk 131 130,xf 132 2 131,xl 133 132,xm 134 9,xm 135 0,xk 136 135,xf 137 2 136,xl 138 137,xm 139 9,xq 140 138 139,xl 141 140,xm 142 0,xk 143 142,xf 144 2 143,xl 145 144,xm 146 7,xq 147 145 146,xl 148 147,xo 149 (.min (.t 141) (.t 148)),xq 150 133 134,xs 1 150 149]
abbrev o83_16:=[xm 151 0,xm 152 7,xc 153 117 [.t 151,.t 152]]
def l83_1:ACode:=(.loop (.seq (.seq (xr [0,4,16] o83_1) (.cond (.t 16) .skip (.exit 0))) (.block 1 (.seq (xr [0,4,5] o83_2) (.seq (.block 2 l83_0) (.seq (xr [0,4,7] o83_10) (.seq (xr [0,4,7] o83_11) (.seq (.seq (xr [0,4,7,8] o83_12) (.seq (xr [0,4,7,8,123] o83_13) (.cond (.t 123) (.seq (xr [0,4,7,9] o83_14) (xr [0,4,7] o83_15)) .skip))) (xr [0,4] o83_16)))))))))
def a83:AFunc:=⟨(.seq (xr [0,4] o83_0) (.seq .skip (.block 0 l83_1))),
  [],false⟩
abbrev o84_0:=[xv 8 (.b false)]
abbrev o84_1:=[xm 13 2,xn 14 13,xv 15 (yi 0)]
abbrev o84_2:=[xb 16 .lss 15 14]
abbrev o84_3:=[xq 17 13 15,xl 18 17,xm 10 18]
abbrev o84_4:=[xm 19 0,xm 20 10,xq 21 19 20,xl 22 21,xn 23 22,xv 24 (yi 0)]
abbrev o84_5:=[xb 25 .lss 24 23]
abbrev o84_6:=[xq 26 22 24,xl 27 26,xm 12 27]
abbrev o84_7:=[xm 28 3,xm 29 1,xm 30 12,xq 31 29 30,xl 32 31,xq 33 28 32,xl 34 33,xo 35 (.un .not (.t 34)),xm 36 35,xt 36 37 (.mv (.t 1)),xt 36 38 (.mv (.t 12)),xt 36 39 (.iad .one (.t 37) (.t 38)),xt 36 40 (.load .one (.t 39)),xt 36 41 (.mv (.t 1)),xt 36 42 (.mv (.t 10)),xt 36 43 (.iad .one (.t 41) (.t 42)),xt 36 44 (.load .one (.t 43)),
 xt 36 45 (.bin .neq (.t 40) (.t 44)),xo 46 (.pick (.t 36) (.t 45) (.c (.b false)))]
abbrev o84_8:=[xv 8 (.b false)]
abbrev o84_9:=[xd 47 .add 24 1,xm 24 47]
def l84_0:ACode:=(.loop (.seq (xr [0,1,3,10,13,14,15,22,23,24,25] o84_5) (.seq (.cond (.t 25) .skip (.exit 2)) (.seq (.block 3 (.seq (xr [0,1,3,10,12,13,14,15,22,23,24] o84_6) (.seq (xr [0,1,3,10,13,14,15,22,23,24,46] o84_7) (.cond (.t 46) (.seq (xr [8] o84_8) .ret) .skip)))) (xr [0,1,3,10,13,14,15,22,23,24] o84_9)))))
abbrev o84_10:=[xd 48 .add 15 1,xm 15 48]
def l84_1:ACode:=(.loop (.seq (xr [0,1,3,13,14,15,16] o84_2) (.seq (.cond (.t 16) .skip (.exit 0)) (.seq (.block 1 (.seq (xr [0,1,3,10,13,14,15] o84_3) (.seq (xr [0,1,3,10,13,14,15,22,23,24] o84_4) (.block 2 l84_0)))) (xr [0,1,3,13,14,15] o84_10)))))
abbrev o84_11:=[xv 8 (.b true)]
def a84:AFunc:=⟨(.seq (xr [0,1,2,3] o84_0) (.seq (.seq (xr [0,1,3,13,14,15] o84_1) (.block 0 l84_1)) (.seq (xr [8] o84_11) .ret))),
  [(.t 8,none)],false⟩
abbrev o85_0:=[xo 1 (.box (.t 0)),xv 2 .nsl]
abbrev o85_1:=[xv 3 .nsl]
abbrev o85_2:=[xe 6 6 1,xc 7 76 [.t 6],xo 8 (.un .not (.t 7))]
abbrev o85_3:=[xm 9 3,xm 2 9]
abbrev o85_4:=[xf 10 0 1,xl 11 10,xd 12 .eql 11 2]
abbrev o85_5:=[xm 13 3,xf 14 1 1,xl 15 14,xo 16 (.bsl .one [(.s [])] 1 [(0,1,(.t 15))]),xo 17 (.app .one (.t 13) (.t 16) false),xm 3 17]
abbrev o85_6:=[xf 18 3 1,xl 19 18,xn 20 19,xv 21 (yi 0)]
abbrev o85_7:=[xb 22 .lss 21 20]
abbrev o85_8:=[xo 23 (.iad (.st 6) (.t 19) (.t 21)),xe 24 6 23,xa 5 [(yi 0),(.s []),(yi 0),.nsl,(yi 0),(yi 0)],xs 6 5 24]
abbrev o85_9:=[xm 25 3,xe 26 6 5,xc 27 85 [.t 26],xo 28 (.app .one (.t 25) (.t 27) false),xm 3 28]
abbrev o85_10:=[xd 29 .add 21 1,xm 21 29]
def l85_0:ACode:=(.loop (.trn (.seq (xr [3,19,20,21,22] o85_7) (.seq (.cond (.t 22) .skip (.exit 0)) (.seq (.block 1 (.seq (xr [3,5,19,20,21] o85_8) (xr [3,19,20,21] o85_9))) (xr [3,19,20,21] o85_10))))))
abbrev o85_11:=[xm 30 3,xm 2 30]
def a85:AFunc:=⟨(.seq (xr [1] o85_0) (.seq (xr [1,3] o85_1) (.seq (.seq (xr [1,3,8] o85_2) (.cond (.t 8) (.seq (xr [2] o85_3) .ret) .skip)) (.seq (.seq (xr [1,3,12] o85_4) (.cond (.t 12) (xr [1,3] o85_5) .skip)) (.seq (.seq (xr [3,19,20,21] o85_6) (.block 0 l85_0)) (.seq (xr [2] o85_11) .ret)))))),
  [(.t 2,none)],true⟩
abbrev o86_0:=[xm 7 0,xk 8 7,xf 9 0 8,xl 10 9,xn 11 10,xm 6 11]
abbrev o86_1:=[xm 12 0,xm 13 0,xk 14 13,xf 15 0 14,xl 16 15,xm 17 1,xo 18 (.app .one (.t 16) (.t 17) false),xk 19 12,xf 20 0 19,xs 1 20 18]
abbrev o86_2:=[xm 21 2,xo 22 (.call (.t 21) [] false)]
abbrev o86_3:=[xm 23 0,xm 24 0,xk 25 24,xf 26 0 25,xl 27 26,xm 28 6,xo 29 (.slc false (.t 27) none (some (.t 28))),xk 30 23,xf 31 0 30,xs 1 31 29]
def a86:AFunc:=⟨(.seq (xr [0,1,2,6] o86_0) (.seq (xr [0,2,6] o86_1) (.seq (xr [0,6] o86_2) (xr [] o86_3)))),
  [],false⟩
abbrev o87_0:=[xl 6 0,xn 7 6,xv 8 (yi 0)]
abbrev o87_1:=[xb 9 .lss 8 7]
abbrev o87_2:=[xo 10 (.iad (.st 10) (.t 6) (.t 8)),xe 11 10 10,xa 3 [.nsl,(yi 0),(.s []),(yi 0),.nsl,.nsl,.nsl,.nsl,(yi 0),(yi 0)],xs 10 3 11]
abbrev o87_3:=[xf 12 0 3,xl 13 12,xn 14 13,xv 15 (yi 0)]
abbrev o87_4:=[xb 16 .lss 15 14]
abbrev o87_5:=[xo 17 (.iad (.st 9) (.t 13) (.t 15)),xe 18 9 17,xa 5 [(yi 0),(.s []),(yi 0),.nsl,.nsl,.nsl,.nsl,(yi 0),(yi 0)],xs 9 5 18]
abbrev o87_6:=[xl 19 1,xe 20 9 5,xc 21 88 [.t 19,.t 20]]
abbrev o87_7:=[xd 22 .add 15 1,xm 15 22]
def l87_0:ACode:=(.loop (.trn (.seq (xr [1,3,6,7,8,13,14,15,16] o87_4) (.seq (.cond (.t 16) .skip (.exit 2)) (.seq (.block 3 (.seq (xr [1,3,5,6,7,8,13,14,15] o87_5) (xr [1,3,6,7,8,13,14,15] o87_6))) (xr [1,3,6,7,8,13,14,15] o87_7))))))
abbrev o87_8:=[xl 23 1,xf 24 1 3,xe 25 9 24,xc 26 88 [.t 23,.t 25]]
abbrev o87_9:=[xd 27 .add 8 1,xm 8 27]
def l87_1:ACode:=(.loop (.trn (.seq (xr [1,6,7,8,9] o87_1) (.seq (.cond (.t 9) .skip (.exit 0)) (.seq (.block 1 (.seq (xr [1,3,6,7,8] o87_2) (.seq (.seq (xr [1,3,6,7,8,13,14,15] o87_3) (.block 2 l87_0)) (xr [1,6,7,8] o87_8)))) (xr [1,6,7,8] o87_9))))))
def a87:AFunc:=⟨(.seq (xr [1,6,7,8] o87_0) (.block 0 l87_1)),
  [],false⟩
abbrev o88_0:=[xo 2 (.box (.t 0)),xo 3 (.box (.t 1))]
abbrev o88_1:=[xo 8 (.mkf 118 [.t 3,.t 2]),xa 4 [.nf],xs 1 4 8]
abbrev o88_2:=[xf 9 0 3,xl 10 9]
abbrev o88_3:=[xd 29 .eql 10 1,xm 28 29]
abbrev o88_4:=[xl 30 2,xf 31 1 3,xl 32 31,xc 33 119 [.t 30,.t 32]]
abbrev o88_5:=[xd 35 .eql 10 4,xm 34 35]
abbrev o88_6:=[xf 36 4 3,xl 37 36,xo 38 (.iad (.st 9) (.t 37) (xi 0)),xe 39 9 38,xa 5 [(yi 0),(.s []),(yi 0),.nsl,.nsl,.nsl,.nsl,(yi 0),(yi 0)],xs 9 5 39]
abbrev o88_7:=[xf 40 0 5,xl 41 40,xd 42 .eql 41 4,xm 43 42,xt 43 44 (.fad 4 (.t 5)),xt 43 45 (.load .one (.t 44)),xt 43 46 (.iad (.st 9) (.t 45) (xi 0)),xt 43 47 (.load (.st 9) (.t 46)),xt 43 48 (.call (.c (.clo 120 [])) [.t 47] false),xo 49 (.pick (.t 43) (.t 48) (.c (.b false)))]
abbrev o88_8:=[xl 50 2,xf 51 4 5,xl 52 51,xo 53 (.iad (.st 9) (.t 52) (xi 1)),xe 54 9 53,xc 55 88 [.t 50,.t 54]]
abbrev o88_9:=[xl 56 2,xf 57 4 5,xl 58 57,xo 59 (.iad (.st 9) (.t 58) (xi 0)),xe 60 9 59,xc 61 88 [.t 56,.t 60]]
abbrev o88_10:=[xl 62 2,xf 63 4 3,xl 64 63,xo 65 (.iad (.st 9) (.t 64) (xi 1)),xe 66 9 65,xc 67 88 [.t 62,.t 66]]
abbrev o88_11:=[xl 68 4,xo 69 (.call (.t 68) [] false)]
abbrev o88_12:=[xd 71 .eql 10 5,xm 70 71]
abbrev o88_13:=[xl 72 2,xf 73 3 3,xl 74 73,xl 76 4,⟨some 75,(.call (.c (.clo 121 [])) [.t 74] false),none,[(72,none,(.load .one (.t 2))),(76,none,(.load .one (.t 4)))]⟩,xc 77 86 [.t 72,.t 75,.t 76]]
abbrev o88_14:=[xd 79 .eql 10 6,xm 78 79]
abbrev o88_15:=[xl 80 2,xf 81 6 3,xl 82 81,xo 84 (.mkf 123 [.t 2,.t 3,.t 4]),⟨some 83,(.call (.c (.clo 122 [])) [.t 82] false),none,[(80,none,(.load .one (.t 2)))]⟩,xc 85 86 [.t 80,.t 83,.t 84]]
abbrev o88_16:=[xl 11 4,xo 12 (.call (.t 11) [] false)]
abbrev o88_17:=[xf 13 5 3,xl 14 13,xn 15 14,xv 16 (yi 0)]
abbrev o88_18:=[xb 17 .lss 16 15]
abbrev o88_19:=[xo 18 (.iad (.st 7) (.t 14) (.t 16)),xe 19 7 18,xa 7 [(yi 0),(.s []),(yi 0),.nsl,(yi 0),(yi 0),.nsl],xs 7 7 19]
abbrev o88_20:=[xl 20 2,xf 21 0 7,xe 22 6 21,xo 23 (.bsl (.st 6) [(yi 0),(.s []),(yi 0),.nsl,(yi 0),(yi 0)] 1 [(0,6,(.t 22))]),xf 24 6 7,xl 25 24,xc 26 51 [.t 20,.t 23,.t 25]]
abbrev o88_21:=[xd 27 .add 16 1,xm 16 27]
def l88_0:ACode:=(.loop (.trn (.seq (xr [2,14,15,16,17] o88_18) (.seq (.cond (.t 17) .skip (.exit 1)) (.seq (.block 2 (.seq (xr [2,7,14,15,16] o88_19) (xr [2,14,15,16] o88_20))) (xr [2,14,15,16] o88_21))))))
def a88:AFunc:=⟨(.seq (xr [2,3] o88_0) (.seq (xr [2,3,4] o88_1) (.seq (xr [2,3,4,10] o88_2) (.block 0 (.seq (xr [2,3,4,10,28] o88_3) (.cond (.t 28) (xr [] o88_4) (.seq (xr [2,3,4,10,34] o88_5) (.cond (.t 34) (.seq (.seq (xr [2,3,4,5] o88_6) (.seq (xr [2,3,4,5,49] o88_7) (.cond (.t 49) (.seq (xr [2,3,5] o88_8) (.seq (xr [2,3] o88_9) (.seq (xr [] o88_10) .ret))) .skip))) (xr [] o88_11)) (.seq (xr [2,3,4,10,70] o88_12) (.cond (.t 70) (xr [] o88_13) (.seq (xr [2,3,4,78] o88_14) (.cond (.t 78) (xr [] o88_15) (.seq (xr [2,3] o88_16) (.seq (xr [2,14,15,16] o88_17) (.block 1 l88_0))))))))))))))),
  [],false⟩
abbrev o89_0:=[xm 2 0,xk 3 2,xf 4 1 3,xl 5 4,xm 6 0,xk 7 6,xf 8 0 7,xl 9 8,xo 10 (.len true (.t 9)),xb 11 .lss 5 10,xm 12 11,xt 12 13 (.mv (.t 0)),xt 12 14 (.nck (.t 13)),xt 12 15 (.fad 0 (.t 14)),xt 12 16 (.load .one (.t 15)),xt 12 17 (.mv (.t 0)),xt 12 18 (.nck (.t 17)),xt 12 19 (.fad 1 (.t 18)),xt 12 20 (.load .one (.t 19)),xt 12 21 (.idx (.t 16) (.t 20)),
 xt 12 22 (.bin .neq (.t 21) (.c (.i .u8 10))),xo 23 (.pick (.t 12) (.t 22) (.c (.b false)))]
abbrev o89_1:=[xm 24 0,xk 25 24,xf 26 1 25,xl 27 26,xd 28 .add 27 1,xk 29 24,xf 30 1 29,xs 1 30 28]
abbrev o89_2:=[xm 31 0,xk 32 31,xf 33 2 32,xf 34 1 33,xl 35 34,xd 36 .add 35 1,xk 37 31,xf 38 2 37,xf 39 1 38,xs 1 39 36]
def l89_0:ACode:=(.loop (.seq (.seq (xr [0,23] o89_0) (.cond (.t 23) .skip (.exit 0))) (.block 1 (.seq (xr [0] o89_1) (xr [0] o89_2)))))
def a89:AFunc:=⟨(.block 0 l89_0),
  [],false⟩
abbrev o90_0:=[xv 2 (yi 0)]
abbrev o90_1:=[xm 4 0,xo 5 (.bin .geq (.t 4) (.c (.i .u8 97))),xm 6 5,xt 6 7 (.mv (.t 0)),xt 6 8 (.bin .leq (.t 7) (.c (.i .u8 122))),xo 9 (.pick (.t 6) (.t 8) (.c (.b false))),xm 10 9,xu 10 11 (.mv (.t 0)),xu 10 12 (.bin .eql (.t 11) (.c (.i .u8 95))),xo 13 (.pick (.t 10) (.c (.b true)) (.t 12)),xm 3 13]
abbrev o90_2:=[xv 2 (yi 1)]
abbrev o90_3:=[xm 15 0,xo 16 (.bin .geq (.t 15) (.c (.i .u8 65))),xm 17 16,xt 17 18 (.mv (.t 0)),xt 17 19 (.bin .leq (.t 18) (.c (.i .u8 90))),xo 20 (.pick (.t 17) (.t 19) (.c (.b false))),xm 14 20]
abbrev o90_4:=[xv 2 (yi 2)]
abbrev o90_5:=[xm 22 0,xo 23 (.bin .geq (.t 22) (.c (.i .u8 48))),xm 24 23,xt 24 25 (.mv (.t 0)),xt 24 26 (.bin .leq (.t 25) (.c (.i .u8 57))),xo 27 (.pick (.t 24) (.t 26) (.c (.b false))),xm 21 27]
abbrev o90_6:=[xv 2 (yi 3)]
abbrev o90_7:=[xm 28 0]
abbrev o90_8:=[xo 30 (.bin .eql (.t 28) (.c (.i .u8 40))),xm 29 30]
abbrev o90_9:=[xo 31 (.bin .eql (.t 28) (.c (.i .u8 41))),xm 29 31]
abbrev o90_10:=[xo 32 (.bin .eql (.t 28) (.c (.i .u8 123))),xm 29 32]
abbrev o90_11:=[xo 33 (.bin .eql (.t 28) (.c (.i .u8 125))),xm 29 33]
abbrev o90_12:=[xo 34 (.bin .eql (.t 28) (.c (.i .u8 59))),xm 29 34]
abbrev o90_13:=[xo 35 (.bin .eql (.t 28) (.c (.i .u8 92))),xm 29 35]
abbrev o90_14:=[xv 2 (yi 4)]
abbrev o90_15:=[xo 37 (.bin .eql (.t 28) (.c (.i .u8 33))),xm 36 37]
abbrev o90_16:=[xo 38 (.bin .eql (.t 28) (.c (.i .u8 35))),xm 36 38]
abbrev o90_17:=[xo 39 (.bin .eql (.t 28) (.c (.i .u8 36))),xm 36 39]
abbrev o90_18:=[xo 40 (.bin .eql (.t 28) (.c (.i .u8 37))),xm 36 40]
abbrev o90_19:=[xo 41 (.bin .eql (.t 28) (.c (.i .u8 38))),xm 36 41]
abbrev o90_20:=[xo 42 (.bin .eql (.t 28) (.c (.i .u8 42))),xm 36 42]
abbrev o90_21:=[xo 43 (.bin .eql (.t 28) (.c (.i .u8 43))),xm 36 43]
abbrev o90_22:=[xo 44 (.bin .eql (.t 28) (.c (.i .u8 46))),xm 36 44]
abbrev o90_23:=[xo 45 (.bin .eql (.t 28) (.c (.i .u8 47))),xm 36 45]
abbrev o90_24:=[xo 46 (.bin .eql (.t 28) (.c (.i .u8 58))),xm 36 46]
abbrev o90_25:=[xo 47 (.bin .eql (.t 28) (.c (.i .u8 60))),xm 36 47]
abbrev o90_26:=[xo 48 (.bin .eql (.t 28) (.c (.i .u8 61))),xm 36 48]
abbrev o90_27:=[xo 49 (.bin .eql (.t 28) (.c (.i .u8 62))),xm 36 49]
abbrev o90_28:=[xo 50 (.bin .eql (.t 28) (.c (.i .u8 63))),xm 36 50]
abbrev o90_29:=[xo 51 (.bin .eql (.t 28) (.c (.i .u8 64))),xm 36 51]
abbrev o90_30:=[xo 52 (.bin .eql (.t 28) (.c (.i .u8 94))),xm 36 52]
abbrev o90_31:=[xo 53 (.bin .eql (.t 28) (.c (.i .u8 124))),xm 36 53]
abbrev o90_32:=[xo 54 (.bin .eql (.t 28) (.c (.i .u8 126))),xm 36 54]
abbrev o90_33:=[xo 55 (.bin .eql (.t 28) (.c (.i .u8 45))),xm 36 55]
abbrev o90_34:=[xv 2 (yi 5)]
abbrev o90_35:=[xv 2 (yi 0)]
def a90:AFunc:=⟨(.seq (xr [0] o90_0) (.seq (.block 0 (.seq (xr [0,3] o90_1) (.cond (.t 3) (.seq (xr [2] o90_2) .ret) (.seq (xr [0,14] o90_3) (.cond (.t 14) (.seq (xr [2] o90_4) .ret) (.seq (xr [0,21] o90_5) (.cond (.t 21) (.seq (xr [2] o90_6) .ret) .skip))))))) (.seq (.seq (xr [28] o90_7) (.block 1 (.seq (.seq (xr [28,29] o90_8) (.cond (.t 29) .skip (.seq (xr [28,29] o90_9) (.cond (.t 29) .skip (.seq (xr [28,29] o90_10) (.cond (.t 29) .skip (.seq (xr [28,29] o90_11) (.cond (.t 29) .skip (.seq (xr [28,29] o90_12) (.cond (.t 29) .skip (xr [28,29] o90_13))))))))))) (.cond (.t 29) (.seq (xr [2] o90_14) .ret) (.seq (.seq (xr [28,36] o90_15) (.cond (.t 36) .skip (.seq (xr [28,36] o90_16) (.cond (.t 36) .skip (.seq (xr [28,36] o90_17) (.cond (.t 36) .skip (.seq (xr [28,36] o90_18) (.cond (.t 36) .skip (.seq (xr [28,36] o90_19) (.cond (.t 36) .skip (.seq (xr [28,36] o90_20) (.cond (.t 36) .skip (.seq (xr [28,36] o90_21) (.cond (.t 36) .skip (.seq (xr [28,36] o90_22) (.cond (.t 36) .skip (.seq (xr [28,36] o90_23) (.cond (.t 36) .skip (.seq (xr [28,36] o90_24) (.cond (.t 36) .skip (.seq (xr [28,36] o90_25) (.cond (.t 36) .skip (.seq (xr [28,36] o90_26) (.cond (.t 36) .skip (.seq (xr [28,36] o90_27) (.cond (.t 36) .skip (.seq (xr [28,36] o90_28) (.cond (.t 36) .skip (.seq (xr [28,36] o90_29) (.cond (.t 36) .skip (.seq (xr [28,36] o90_30) (.cond (.t 36) .skip (.seq (xr [28,36] o90_31) (.cond (.t 36) .skip (.seq (xr [28,36] o90_32) (.cond (.t 36) .skip (xr [36] o90_33))))))))))))))))))))))))))))))))))))) (.cond (.t 36) (.seq (xr [2] o90_34) .ret) .skip)))))) (.seq (xr [2] o90_35) .ret)))),
  [(.t 2,none)],false⟩
abbrev o91_0:=[xv 4 (.b false)]
abbrev o91_1:=[xm 6 1,xc 7 90 [.t 6],xm 5 7]
abbrev o91_2:=[xm 8 0]
abbrev o91_3:=[xd 10 .eql 8 1,xm 9 10]
abbrev o91_4:=[xd 11 .eql 8 2,xm 9 11]
abbrev o91_5:=[xm 12 5,xd 13 .eql 12 1,xm 14 13,xu 14 15 (.mv (.t 5)),xu 14 16 (.bin .eql (.t 15) (xi 2)),xo 17 (.pick (.t 14) (.c (.b true)) (.t 16)),xm 18 17,xu 18 19 (.mv (.t 5)),xu 18 20 (.bin .eql (.t 19) (xi 3)),xo 21 (.pick (.t 18) (.c (.b true)) (.t 20)),xm 22 21,xu 22 23 (.mv (.t 1)),xu 22 24 (.bin .eql (.t 23) (.c (.i .u8 39))),
 xo 25 (.pick (.t 22) (.c (.b true)) (.t 24)),xm 4 25]
abbrev o91_6:=[xd 27 .eql 8 3,xm 26 27]
abbrev o91_7:=[xd 28 .eql 8 5,xm 26 28]
abbrev o91_8:=[xm 29 5,xm 30 0,xb 31 .eql 29 30,xm 4 31]
abbrev o91_9:=[xv 4 (.b false)]
def a91:AFunc:=⟨(.seq (xr [0,1] o91_0) (.seq (xr [0,1,5] o91_1) (.seq (.seq (xr [0,1,5,8] o91_2) (.block 0 (.seq (.seq (xr [0,1,5,8,9] o91_3) (.cond (.t 9) .skip (xr [0,1,5,8,9] o91_4))) (.cond (.t 9) (.seq (xr [4] o91_5) .ret) (.seq (.seq (xr [0,5,8,26] o91_6) (.cond (.t 26) .skip (xr [0,5,26] o91_7))) (.cond (.t 26) (.seq (xr [4] o91_8) .ret) .skip)))))) (.seq (xr [4] o91_9) .ret)))),
  [(.t 4,none)],false⟩
abbrev o92_0:=[xv 4 (yi 0)]
abbrev o92_1:=[xm 5 0]
abbrev o92_2:=[xd 7 .eql 5 2,xm 6 7]
abbrev o92_3:=[xv 4 (yi 2)]
abbrev o92_4:=[xd 9 .eql 5 3,xm 8 9]
abbrev o92_5:=[xv 4 (yi 4)]
abbrev o92_6:=[xd 11 .eql 5 5,xm 10 11]
abbrev o92_7:=[xm 12 1,xo 13 (.bin .eql (.t 12) (.c (.s [61]))),xm 14 13,xu 14 15 (.mv (.t 1)),xu 14 16 (.bin .eql (.t 15) (.c (.s [124]))),xo 17 (.pick (.t 14) (.c (.b true)) (.t 16)),xm 18 17,xu 18 19 (.mv (.t 1)),xu 18 20 (.bin .eql (.t 19) (.c (.s [45,62]))),xo 21 (.pick (.t 18) (.c (.b true)) (.t 20))]
abbrev o92_8:=[xv 4 (yi 5)]
abbrev o92_9:=[xv 4 (yi 3)]
abbrev o92_10:=[xd 23 .eql 5 1,xm 22 23]
abbrev o92_11:=[xm 24 1,xo 25 (.bin .eql (.t 24) (.c (.s [95])))]
abbrev o92_12:=[xv 4 (yi 5)]
abbrev o92_13:=[xm 26 1,xc 27 124 [.t 26]]
abbrev o92_14:=[xv 4 (yi 6)]
abbrev o92_15:=[xv 4 (yi 1)]
abbrev o92_16:=[xv 4 (yi 5)]
def a92:AFunc:=⟨(.seq (xr [0,1] o92_0) (.seq (.seq (xr [1,5] o92_1) (.block 0 (.seq (xr [1,5,6] o92_2) (.cond (.t 6) (.seq (xr [4] o92_3) .ret) (.seq (xr [1,5,8] o92_4) (.cond (.t 8) (.seq (xr [4] o92_5) .ret) (.seq (xr [1,5,10] o92_6) (.cond (.t 10) (.seq (.seq (xr [21] o92_7) (.cond (.t 21) (.seq (xr [4] o92_8) .ret) .skip)) (.seq (xr [4] o92_9) .ret)) (.seq (xr [1,22] o92_10) (.cond (.t 22) (.seq (.seq (xr [1,25] o92_11) (.cond (.t 25) (.seq (xr [4] o92_12) .ret) .skip)) (.seq (.seq (xr [27] o92_13) (.cond (.t 27) (.seq (xr [4] o92_14) .ret) .skip)) (.seq (xr [4] o92_15) .ret))) .skip)))))))))) (.seq (xr [4] o92_16) .ret))),
  [(.t 4,none)],false⟩
abbrev o93_0:=[xv 2 (yi 0),xv 3 (yi 0)]
abbrev o93_1:=[xm 4 0,xo 5 (.bin .eql (.t 4) (.c (.s [57,50,50,51,51,55,50,48,51,54,56,53,52,55,55,53,56,48,56])))]
abbrev o93_2:=[xm 6 0,xo 7 (.bin .add (.c (.s [45])) (.t 6)),xc 8 125 [.t 7],xx 9 8 0,xx 10 8 1,xm 2 9,xm 3 10]
abbrev o93_3:=[xm 11 0,xc 12 125 [.t 11],xx 13 12 0,xx 14 12 1,xm 2 13,xm 3 14]
def a93:AFunc:=⟨(.seq (xr [0] o93_0) (.seq (.seq (xr [0,5] o93_1) (.cond (.t 5) (.seq (xr [2,3] o93_2) .ret) .skip)) (.seq (xr [2,3] o93_3) .ret))),
  [(.t 2,none),(.t 3,none)],false⟩
abbrev o94_0:=[xv 2 (yi 0)]
abbrev o94_1:=[xm 4 0,xc 5 97 [.t 4],xm 3 5]
abbrev o94_2:=[xm 6 3,xd 7 .lss 6 0,xm 8 7,xu 8 9 (.mv (.t 0)),xu 8 10 (.nck (.t 9)),xu 8 11 (.fad 1 (.t 10)),xu 8 12 (.load .one (.t 11)),xu 8 13 (.mv (.t 3)),xu 8 14 (.iad (.st 2) (.t 12) (.t 13)),xu 8 15 (.fad 0 (.t 14)),xu 8 16 (.load .one (.t 15)),xu 8 17 (.bin .eql (.t 16) (xi 1)),xo 18 (.pick (.t 8) (.c (.b true)) (.t 17))]
abbrev o94_3:=[xv 2 (yi 0)]
abbrev o94_4:=[xm 19 0,xk 20 19,xf 21 1 20,xl 22 21,xm 23 3,xo 24 (.iad (.st 2) (.t 22) (.t 23)),xf 25 1 24,xl 26 25,xm 2 26]
def a94:AFunc:=⟨(.seq (xr [0] o94_0) (.seq (xr [0,3] o94_1) (.seq (.seq (xr [0,3,18] o94_2) (.cond (.t 18) (.seq (xr [2] o94_3) .ret) .skip)) (.seq (xr [2] o94_4) .ret)))),
  [(.t 2,none)],false⟩
abbrev o95_0:=[xm 6 0,xm 7 0,xk 8 7,xf 9 1 8,xl 10 9,xm 11 1,xm 12 2,xo 13 (.build [(yi 0),(yi 0)] [(0,1,(.t 11)),(1,1,(.t 12))]),xo 14 (.bsl (.st 2) [(yi 0),(yi 0)] 1 [(0,2,(.t 13))]),xo 15 (.app (.st 2) (.t 10) (.t 14) false),xk 16 6,xf 17 1 16,xs 1 17 15]
def a95:AFunc:=⟨(xr [] o95_0),
  [],false⟩
abbrev o96_0:=[xv 2 (.b false)]
abbrev o96_1:=[xm 4 0,xc 5 97 [.t 4],xm 3 5]
abbrev o96_2:=[xm 6 3,xd 7 .geq 6 0,xm 8 7,xt 8 9 (.mv (.t 0)),xt 8 10 (.nck (.t 9)),xt 8 11 (.fad 1 (.t 10)),xt 8 12 (.load .one (.t 11)),xt 8 13 (.mv (.t 3)),xt 8 14 (.iad (.st 2) (.t 12) (.t 13)),xt 8 15 (.fad 0 (.t 14)),xt 8 16 (.load .one (.t 15)),xt 8 17 (.bin .eql (.t 16) (xi 0)),xo 18 (.pick (.t 8) (.t 17) (.c (.b false))),xm 2 18]
def a96:AFunc:=⟨(.seq (xr [0] o96_0) (.seq (xr [0,3] o96_1) (.seq (xr [2] o96_2) .ret))),
  [(.t 2,none)],false⟩
abbrev o97_0:=[xv 2 (yi 0)]
abbrev o97_1:=[xm 5 0,xk 6 5,xf 7 1 6,xl 8 7,xn 9 8,xd 10 .sub 9 1,xm 3 10]
abbrev o97_2:=[xm 11 3,xd 12 .geq 11 0]
abbrev o97_3:=[xm 15 0,xk 16 15,xf 17 1 16,xl 18 17,xm 19 3,xo 20 (.iad (.st 2) (.t 18) (.t 19)),xf 21 0 20,xl 22 21,xm 4 22]
abbrev o97_4:=[xm 23 4,xd 24 .eql 23 0,xm 25 24,xu 25 26 (.mv (.t 4)),xu 25 27 (.bin .eql (.t 26) (xi 1)),xo 28 (.pick (.t 25) (.c (.b true)) (.t 27))]
abbrev o97_5:=[xm 29 3,xm 2 29]
abbrev o97_6:=[xm 13 3,xd 14 .sub 13 1,xm 3 14]
def l97_0:ACode:=(.loop (.seq (.seq (xr [0,3,12] o97_2) (.cond (.t 12) .skip (.exit 0))) (.seq (.block 1 (.seq (xr [0,3,4] o97_3) (.seq (xr [0,3,28] o97_4) (.cond (.t 28) (.seq (xr [2] o97_5) .ret) .skip)))) (xr [0,3] o97_6))))
abbrev o97_7:=[xv 2 (yi (-1))]
def a97:AFunc:=⟨(.seq (xr [0] o97_0) (.seq (.seq (xr [0,3] o97_1) (.block 0 l97_0)) (.seq (xr [2] o97_7) .ret))),
  [(.t 2,none)],false⟩
abbrev o98_0:=[xv 6 (yi 0)]
abbrev o98_1:=[xv 7 (yi (-1))]
abbrev o98_2:=[xm 12 0,xk 13 12,xf 14 1 13,xl 15 14,xn 16 15,xd 17 .sub 16 1,xm 8 17]
abbrev o98_3:=[xm 18 8,xd 19 .geq 18 0]
abbrev o98_4:=[xm 22 0,xk 23 22,xf 24 1 23,xl 25 24,xm 26 8,xo 27 (.iad (.st 2) (.t 25) (.t 26)),xf 28 0 27,xl 29 28,xm 9 29]
abbrev o98_5:=[xm 30 9,xm 31 1,xb 32 .eql 30 31]
abbrev o98_6:=[xm 33 8,xm 7 33]
abbrev o98_7:=[xm 34 2,xn 35 34,xv 36 (yi 0)]
abbrev o98_8:=[xb 37 .lss 36 35]
abbrev o98_9:=[xq 38 34 36,xl 39 38,xm 11 39]
abbrev o98_10:=[xm 40 9,xm 41 11,xb 42 .eql 40 41]
abbrev o98_11:=[xd 43 .add 36 1,xm 36 43]
def l98_0:ACode:=(.loop (.seq (xr [0,1,2,7,8,9,34,35,36,37] o98_8) (.seq (.cond (.t 37) .skip (.exit 2)) (.seq (.block 3 (.seq (xr [0,1,2,7,8,9,11,34,35,36] o98_9) (.seq (xr [0,1,2,7,8,9,34,35,36,42] o98_10) (.cond (.t 42) (.exit 0) .skip)))) (xr [0,1,2,7,8,9,34,35,36] o98_11)))))
abbrev o98_12:=[xm 20 8,xd 21 .sub 20 1,xm 8 21]
def l98_1:ACode:=(.loop (.seq (.seq (xr [0,1,2,7,8,19] o98_3) (.cond (.t 19) .skip (.exit 0))) (.seq (.block 1 (.seq (xr [0,1,2,7,8,9] o98_4) (.seq (.seq (xr [0,1,2,7,8,9,32] o98_5) (.cond (.t 32) (.seq (xr [7] o98_6) (.exit 0)) .skip)) (.seq (xr [0,1,2,7,8,9,34,35,36] o98_7) (.block 2 l98_0))))) (xr [0,1,2,7,8] o98_12))))
abbrev o98_13:=[xm 44 7,xm 6 44]
def a98:AFunc:=⟨(.seq (xr [0,1,2] o98_0) (.seq (xr [0,1,2,7] o98_1) (.seq .skip (.seq (.seq (xr [0,1,2,7,8] o98_2) (.block 0 l98_1)) (.seq (xr [6] o98_13) .ret))))),
  [(.t 6,none)],false⟩
abbrev o99_0:=[xm 5 0,xk 6 5,xf 7 1 6,xl 8 7,xn 9 8,xm 10 1,xb 11 .gtr 9 10]
abbrev o99_1:=[xm 12 0,xk 13 12,xf 14 1 13,xl 15 14,xn 16 15,xd 17 .sub 16 1,xm 4 17]
abbrev o99_2:=[xm 18 4,xm 19 1,xb 20 .gtr 18 19,xm 21 20,xt 21 22 (.mv (.t 0)),xt 21 23 (.nck (.t 22)),xt 21 24 (.fad 1 (.t 23)),xt 21 25 (.load .one (.t 24)),xt 21 26 (.mv (.t 4)),xt 21 27 (.iad (.st 2) (.t 25) (.t 26)),xt 21 28 (.fad 0 (.t 27)),xt 21 29 (.load .one (.t 28)),xt 21 30 (.bin .eql (.t 29) (xi 0)),xo 31 (.pick (.t 21) (.t 30) (.c (.b false)))]
abbrev o99_3:=[xm 32 0,xo 33 (.call (.c (.clo 58 [])) [.t 32,(.c (.s [125]))] false)]
abbrev o99_4:=[xm 34 0,xm 35 0,xk 36 35,xf 37 1 36,xl 38 37,xm 39 4,xo 40 (.slc false (.t 38) none (some (.t 39))),xk 41 34,xf 42 1 41,xs 1 42 40]
def l99_0:ACode:=(.loop (.seq (.seq (xr [0,1,11] o99_0) (.cond (.t 11) .skip (.exit 0))) (.block 1 (.seq (xr [0,1,4] o99_1) (.seq (.seq (xr [0,1,4,31] o99_2) (.cond (.t 31) (xr [0,1,4] o99_3) .skip)) (xr [0,1] o99_4))))))
def a99:AFunc:=⟨(.block 0 l99_0),
  [],false⟩
abbrev o100_0:=[xv 2 (.b false)]
abbrev o100_1:=[xm 3 0,xc 4 61 [.t 3,(xi 2)],xm 5 4,xu 5 6 (.mv (.t 0)),xu 5 7 (.call (.c (.clo 61 [])) [.t 6,(xi 1)] false),xo 8 (.pick (.t 5) (.c (.b true)) (.t 7)),xm 9 8,xu 9 10 (.mv (.t 0)),xu 9 11 (.call (.c (.clo 29 [])) [.t 10,(.c (.s [40]))] false),xo 12 (.pick (.t 9) (.c (.b true)) (.t 11)),xm 2 12]
def a100:AFunc:=⟨(.seq (xr [0] o100_0) (.seq (xr [2] o100_1) .ret)),
  [(.t 2,none)],false⟩
abbrev o101_0:=[xa 2 [(yi 0),(yi 0),(.s []),.nsl]]
abbrev o101_1:=[xm 5 0,xc 6 61 [.t 5,(xi 2)],xm 4 6]
abbrev o101_2:=[xm 7 0,xc 8 30 [.t 7],xo 9 (.fld 1 .one (.t 8)),xo 10 (.build [(yi 0),(yi 0),(.s []),.nsl] [(0,1,(xi 2)),(2,1,(.t 9))]),xs 4 2 10]
abbrev o101_3:=[xm 12 0,xc 13 61 [.t 12,(xi 1)],xm 11 13]
abbrev o101_4:=[xm 14 0,xc 15 30 [.t 14],xo 16 (.fld 1 .one (.t 15)),xo 17 (.build [(yi 0),(yi 0),(.s []),.nsl] [(0,1,(xi 1)),(2,1,(.t 16))]),xs 4 2 17]
abbrev o101_5:=[xm 18 0,xo 19 (.call (.c (.clo 15 [])) [.t 18,(.c (.s [40]))] false)]
abbrev o101_6:=[xm 20 0,xk 21 20,xf 22 2 21,xl 23 22]
abbrev o101_7:=[xo 24 (.build [(yi 0),(yi 0),(.s []),.nsl] []),xs 4 2 24]
abbrev o101_8:=[xm 25 0,xc 26 126 [.t 25],xa 3 [(yi 0),(yi 0),(.s []),.nsl],xs 4 3 26]
abbrev o101_9:=[xm 27 0,xo 28 (.call (.c (.clo 15 [])) [.t 27,(.c (.s [41]))] false)]
abbrev o101_10:=[xe 29 4 3,xs 4 2 29]
def a101:AFunc:=⟨(.seq (xr [0,2] o101_0) (.seq (.block 0 (.seq (xr [0,2,4] o101_1) (.cond (.t 4) (.seq (xr [2] o101_2) .ret) (.seq (xr [0,2,11] o101_3) (.cond (.t 11) (.seq (xr [2] o101_4) .ret) .skip))))) (.seq (xr [0,2] o101_5) (.seq (.seq (xr [0,2,23] o101_6) (.cond (.t 23) (.seq (xr [2] o101_7) .ret) .skip)) (.seq (xr [0,2,3] o101_8) (.seq (xr [2,3] o101_9) (.seq (xr [2] o101_10) .ret))))))),
  [(.t 2,some (.st 4))],true⟩
abbrev o102_0:=[xv 2 (yi 0),xa 3 [(yi 0),(yi 0)]]
abbrev o102_1:=[xm 5 0,xc 6 59 [.t 5],xo 7 (.fld 2 .one (.t 6)),xd 8 .lss 7 0]
abbrev o102_2:=[xm 9 0,xc 10 31 [.t 9,(xi 11)]]
abbrev o102_3:=[xm 11 0,xc 12 30 [.t 11],xa 4 [(yi 0),(.s []),(yi 0),(yi 0),(yi 0),(.b false)],xs 6 4 12]
abbrev o102_4:=[xf 13 2 4,xl 14 13,xf 15 3 4,xe 16 2 15,xm 2 14,xs 2 3 16]
def a102:AFunc:=⟨(.seq (xr [0,3] o102_0) (.seq (.seq (xr [0,3,8] o102_1) (.cond (.t 8) (xr [0,3] o102_2) .skip)) (.seq (xr [3,4] o102_3) (.seq (xr [2,3] o102_4) .ret)))),
  [(.t 2,none),(.t 3,some (.st 2))],false⟩
abbrev o103_0:=[xv 6 (.b false)]
abbrev o103_1:=[xm 9 0,xo 10 (.call (.c (.clo 29 [])) [.t 9,(.c (.s [40]))] false),xo 11 (.un .not (.t 10)),xm 12 11,xu 12 13 (.mv (.t 0)),xu 12 14 (.nck (.t 13)),xu 12 15 (.fad 1 (.t 14)),xu 12 16 (.load .one (.t 15)),xu 12 17 (.bin .add (.t 16) (xi 2)),xu 12 18 (.mv (.t 0)),xu 12 19 (.nck (.t 18)),xu 12 20 (.fad 0 (.t 19)),xu 12 21 (.load .one (.t 20)),
 xu 12 22 (.len false (.t 21)),xu 12 23 (.bin .geq (.t 17) (.t 22)),xo 24 (.pick (.t 12) (.c (.b true)) (.t 23))]
abbrev o103_2:=[xv 6 (.b false)]
abbrev o103_3:=[xm 25 0,xk 26 25,xf 27 0 26,xl 28 27,xm 29 0,xk 30 29,xf 31 1 30,xl 32 31,xd 33 .add 32 1,xo 34 (.iad (.st 6) (.t 28) (.t 33)),xe 35 6 34,xm 36 0,xk 37 36,xf 38 0 37,xl 39 38,xm 40 0,xk 41 40,xf 42 1 41,xl 43 42,xd 44 .add 43 2,xo 45 (.iad (.st 6) (.t 39) (.t 44)),xe 46 6 45,xa 7 [(yi 0),(.s []),(yi 0),(yi 0),(yi 0),(.b false)],
 xa 8 [(yi 0),(.s []),(yi 0),(yi 0),(yi 0),(.b false)],⟨none,(.store 6 (.t 7) (.t 35) false),none,[(39,none,(.load .one (.t 38))),(43,none,(.load .one (.t 42))),(46,none,(.load (.st 6) (.t 45)))]⟩,xs 6 8 46]
abbrev o103_4:=[xf 47 0 7,xl 48 47,xd 49 .eql 48 3,xm 50 49,xt 50 51 (.mv (.t 1)),xt 50 52 (.bin .eql (.t 51) (.c (.s []))),xt 50 53 (.mv (.t 52)),xu 53 54 (.fad 1 (.t 7)),xu 53 55 (.load .one (.t 54)),xu 53 56 (.mv (.t 1)),xu 53 57 (.bin .eql (.t 55) (.t 56)),xt 50 58 (.pick (.t 53) (.c (.b true)) (.t 57)),xo 59 (.pick (.t 50) (.t 58) (.c (.b false))),xm 60 59,
 xt 60 61 (.fad 0 (.t 8)),xt 60 62 (.load .one (.t 61)),xt 60 63 (.mv (.t 2)),xt 60 64 (.bin .eql (.t 62) (.t 63)),xo 65 (.pick (.t 60) (.t 64) (.c (.b false))),xm 6 65]
def a103:AFunc:=⟨(.seq (xr [0,1,2] o103_0) (.seq (.seq (xr [0,1,2,24] o103_1) (.cond (.t 24) (.seq (xr [6] o103_2) .ret) .skip)) (.seq (xr [1,2,7,8] o103_3) (.seq (xr [6] o103_4) .ret)))),
  [(.t 6,none)],false⟩
abbrev o104_0:=[xv 2 (yi 0),xa 3 [(yi 0),(yi 0)]]
abbrev o104_1:=[xm 5 0,xc 6 30 [.t 5]]
abbrev o104_2:=[xm 7 0,xc 8 30 [.t 7]]
abbrev o104_3:=[xm 9 0,xc 10 30 [.t 9],xa 4 [(yi 0),(.s []),(yi 0),(yi 0),(yi 0),(.b false)],xs 6 4 10]
abbrev o104_4:=[xm 11 0,xo 12 (.call (.c (.clo 15 [])) [.t 11,(.c (.s [41]))] false)]
abbrev o104_5:=[xf 13 2 4,xl 14 13,xo 15 (.un .neg (.t 14)),xf 16 3 4,xe 17 2 16,xm 2 15,xs 2 3 17]
def a104:AFunc:=⟨(.seq (xr [0,3] o104_0) (.seq (xr [0,3] o104_1) (.seq (xr [0,3] o104_2) (.seq (xr [0,3,4] o104_3) (.seq (xr [3,4] o104_4) (.seq (xr [2,3] o104_5) .ret)))))),
  [(.t 2,none),(.t 3,some (.st 2))],false⟩
abbrev o105_0:=[xm 2 0,xc 3 59 [.t 2],xo 4 (.fld 1 .one (.t 3)),xo 5 (.bin .eql (.t 4) (.c (.s [45])))]
abbrev o105_1:=[xm 6 0,xc 7 30 [.t 6]]
abbrev o105_2:=[xm 8 0,xc 9 31 [.t 8,(xi 60)]]
def a105:AFunc:=⟨(.seq (.seq (xr [0,5] o105_0) (.cond (.t 5) (xr [0] o105_1) .skip)) (xr [] o105_2)),
  [],false⟩
abbrev o106_0:=[xa 2 [(yi 0),(.s []),(yi 0),.nsl,(yi 0),(yi 0)]]
abbrev o106_1:=[xm 5 0,xc 6 61 [.t 5,(xi 2)],xo 7 (.un .not (.t 6))]
abbrev o106_2:=[xm 8 0,xc 9 63 [.t 8],xo 10 (.un .not (.t 9))]
abbrev o106_3:=[xm 11 0,xc 12 31 [.t 11,(xi 60)]]
abbrev o106_4:=[xm 13 0,xc 14 64 [.t 13],xs 6 2 14]
abbrev o106_5:=[xm 15 0,xc 16 30 [.t 15],xa 3 [(yi 0),(.s []),(yi 0),(yi 0),(yi 0),(.b false)],xs 6 3 16]
abbrev o106_6:=[xf 17 1 3,xl 18 17,xf 19 3 3,xe 20 2 19,xo 21 (.build [(yi 0),(.s []),(yi 0),.nsl,(yi 0),(yi 0)] [(0,1,(xi 4)),(1,1,(.t 18)),(4,2,(.t 20))]),xa 4 [(yi 0),(.s []),(yi 0),.nsl,(yi 0),(yi 0)],xs 6 4 21]
abbrev o106_7:=[xm 22 0,xc 23 63 [.t 22]]
abbrev o106_8:=[xf 24 3 4,xl 25 24,xm 26 0,⟨some 27,(.call (.c (.clo 64 [])) [.t 26] false),none,[(25,none,(.load .one (.t 24)))]⟩,xo 28 (.bsl (.st 6) [(yi 0),(.s []),(yi 0),.nsl,(yi 0),(yi 0)] 1 [(0,6,(.t 27))]),xo 29 (.app (.st 6) (.t 25) (.t 28) false),xf 30 3 4,xs 1 30 29]
def l106_0:ACode:=(.loop (.seq (.seq (xr [0,2,4,23] o106_7) (.cond (.t 23) .skip (.exit 0))) (.block 1 (xr [0,2,4] o106_8))))
abbrev o106_9:=[xe 31 6 4,xs 6 2 31]
def a106:AFunc:=⟨(.seq (xr [0,2] o106_0) (.seq (.seq (xr [0,2,7] o106_1) (.cond (.t 7) (.seq (.seq (xr [0,2,10] o106_2) (.cond (.t 10) (xr [0,2] o106_3) .skip)) (.seq (xr [2] o106_4) .ret)) .skip)) (.seq (xr [0,2,3] o106_5) (.seq (xr [0,2,4] o106_6) (.seq (.block 0 l106_0) (.seq (xr [2] o106_9) .ret)))))),
  [(.t 2,some (.st 6))],true⟩
abbrev o107_0:=[xa 2 [(yi 0),(.s []),(yi 0),.nsl,.nsl,.nsl,.nsl,(yi 0),(yi 0)]]
abbrev o107_1:=[xm 6 0,xc 7 127 [.t 6],xa 3 [(yi 0),(.s []),(yi 0),.nsl,.nsl,.nsl,.nsl,(yi 0),(yi 0)],xs 9 3 7]
abbrev o107_2:=[xm 8 0,xc 9 61 [.t 8,(xi 3)],xo 10 (.un .not (.t 9))]
abbrev o107_3:=[xe 11 9 3,xs 9 2 11]
abbrev o107_4:=[xe 12 9 3,xo 13 (.bsl (.st 9) [(yi 0),(.s []),(yi 0),.nsl,.nsl,.nsl,.nsl,(yi 0),(yi 0)] 1 [(0,9,(.t 12))]),xo 14 (.build [(yi 0),(.s []),(yi 0),.nsl,.nsl,.nsl,.nsl,(yi 0),(yi 0)] [(0,1,(xi (-1))),(4,1,(.t 13))]),xa 4 [(yi 0),(.s []),(yi 0),.nsl,.nsl,.nsl,.nsl,(yi 0),(yi 0)],xs 9 4 14]
abbrev o107_5:=[xm 15 0,xc 16 61 [.t 15,(xi 3)]]
abbrev o107_6:=[xm 17 0,xc 18 30 [.t 17],xa 5 [(yi 0),(.s []),(yi 0),(yi 0),(yi 0),(.b false)],xs 6 5 18]
abbrev o107_7:=[xf 19 6 4,xl 20 19,xf 21 1 5,xl 22 21,xf 23 3 5,xe 24 2 23,xo 25 (.build [(.s []),.nsl,(yi 0),(yi 0)] [(0,1,(.t 22)),(2,2,(.t 24))]),xo 26 (.bsl (.st 4) [(.s []),.nsl,(yi 0),(yi 0)] 1 [(0,4,(.t 25))]),xo 27 (.app (.st 4) (.t 20) (.t 26) false),xf 28 6 4,xs 1 28 27]
abbrev o107_8:=[xf 29 4 4,xl 30 29,xm 31 0,⟨some 32,(.call (.c (.clo 127 [])) [.t 31] false),none,[(30,none,(.load .one (.t 29)))]⟩,xo 33 (.bsl (.st 9) [(yi 0),(.s []),(yi 0),.nsl,.nsl,.nsl,.nsl,(yi 0),(yi 0)] 1 [(0,9,(.t 32))]),xo 34 (.app (.st 9) (.t 30) (.t 33) false),xf 35 4 4,xs 1 35 34]
def l107_0:ACode:=(.loop (.trn (.seq (.seq (xr [0,2,4,16] o107_5) (.cond (.t 16) .skip (.exit 0))) (.block 1 (.seq (xr [0,2,4,5] o107_6) (.seq (xr [0,2,4] o107_7) (xr [0,2,4] o107_8)))))))
abbrev o107_9:=[xe 36 9 4,xs 9 2 36]
def a107:AFunc:=⟨(.seq (xr [0,2] o107_0) (.seq (xr [0,2,3] o107_1) (.seq (.seq (xr [0,2,3,10] o107_2) (.cond (.t 10) (.seq (xr [2] o107_3) .ret) .skip)) (.seq (xr [0,2,4] o107_4) (.seq (.block 0 l107_0) (.seq (xr [2] o107_9) .ret)))))),
  [(.t 2,some (.st 9))],true⟩
abbrev o108_0:=[xo 3 (.box (.t 1)),xa 4 [(yi 0),(.s []),(yi 0),.nsl,.nsl,.nsl,.nsl,(yi 0),(yi 0)]]
abbrev o108_1:=[xm 10 0,xe 11 9 3,xc 12 128 [.t 10,.t 11],xa 5 [.nsl],xs 1 5 12]
abbrev o108_2:=[xm 13 0,xk 14 13,xf 15 1 14,xl 16 15]
abbrev o108_3:=[xe 17 9 3,xs 9 4 17]
abbrev o108_4:=[xa 6 [.nsl]]
abbrev o108_5:=[xf 18 4 3,xl 19 18,xn 20 19,xv 21 (yi 0)]
abbrev o108_6:=[xb 22 .lss 21 20]
abbrev o108_7:=[xo 23 (.iad (.st 9) (.t 19) (.t 21)),xe 24 9 23,xa 8 [(yi 0),(.s []),(yi 0),.nsl,.nsl,.nsl,.nsl,(yi 0),(yi 0)],xs 9 8 24]
abbrev o108_8:=[xl 25 6,xm 26 0,xe 27 9 8,xn 29 25,xo 30 (.bsl (.st 9) [(yi 0),(.s []),(yi 0),.nsl,.nsl,.nsl,.nsl,(yi 0),(yi 0)] 1 [(0,9,(.c (.agg [(yi 0),(.s []),(yi 0),.nsl,.nsl,.nsl,.nsl,(yi 0),(yi 0)])))]),
 ⟨some 28,(.call (.c (.clo 66 [])) [.t 26,.t 27] false),none,[(25,none,(.load .one (.t 6))),(30,none,(.bsl (.st 9) [(yi 0),(.s []),(yi 0),.nsl,.nsl,.nsl,.nsl,(yi 0),(yi 0)] 1 [(0,9,(.c (.agg [(yi 0),(.s []),(yi 0),.nsl,.nsl,.nsl,.nsl,(yi 0),(yi 0)])))]))]⟩,xo 31 (.app (.st 9) (.t 25) (.t 30) false),xo 32 (.iad (.st 9) (.t 31) (.t 29)),xs 9 32 28,
 xs 1 6 31]
abbrev o108_8b:=[xl 25 6,xm 26 0,xe 27 9 8,xn 29 25,xo 30 (.bsl (.st 9) [(yi 0),(.s []),(yi 0),.nsl,.nsl,.nsl,.nsl,(yi 0),(yi 0)] 1 [(0,9,(.c (.agg [(yi 0),(.s []),(yi 0),.nsl,.nsl,.nsl,.nsl,(yi 0),(yi 0)])))]),
 ⟨some 28,(.call (.c (.clo 66 [])) [.t 26,.t 27] false),none,[(25,none,(.load .one (.t 6))),(30,none,(.bsl (.st 9) [(yi 0),(.s []),(yi 0),.nsl,.nsl,.nsl,.nsl,(yi 0),(yi 0)] 1 [(0,9,(.c (.agg [(yi 0),(.s []),(yi 0),.nsl,.nsl,.nsl,.nsl,(yi 0),(yi 0)])))]))]⟩,xo 31 (.app (.st 9) (.t 25) (.t 30) false),xo 32 (.iad (.st 9) (.t 31) (.t 29)),xs 1 6 31,
 xs 9 32 28]
abbrev o108_9:=[xd 33 .add 21 1,xm 21 33]
def l108_0:ACode:=(.loop (.trn (.seq (xr [0,3,4,5,6,19,20,21,22] o108_6) (.seq (.cond (.t 22) .skip (.exit 0)) (.seq (.block 1 (.seq (xr [0,3,4,5,6,8,19,20,21] o108_7) (.two (some [0,3,4,5,6,19,20,21]) o108_8 o108_8b))) (xr [0,3,4,5,6,19,20,21] o108_9))))))
abbrev o108_10:=[xa 9 [.nf]]
abbrev o108_11:=[xo 34 (.mkf 129 [.t 5,.t 3,.t 9,.t 6]),xs 1 9 34]
abbrev o108_12:=[xl 35 9,xl 36 6,xn 37 36,xd 38 .sub 37 1,xo 39 (.call (.t 35) [(xi 0),.t 38] false),xs 9 4 39]
def a108:AFunc:=⟨(.seq (xr [0,3,4] o108_0) (.seq (xr [0,3,4,5] o108_1) (.seq (.seq (xr [0,3,4,5,16] o108_2) (.cond (.t 16) (.seq (xr [4] o108_3) .ret) .skip)) (.seq (xr [0,3,4,5,6] o108_4) (.seq (.seq (xr [0,3,4,5,6,19,20,21] o108_5) (.block 0 l108_0)) (.seq (xr [3,4,5,6,9] o108_10) (.seq (xr [4,6,9] o108_11) (.seq (xr [4] o108_12) .ret)))))))),
  [(.t 4,some (.st 9))],true⟩
abbrev o109_0:=[xa 2 [(yi 0),(.s []),(yi 0),(yi 0),(yi 0),(.b false)],xv 3 (.b false)]
abbrev o109_1:=[xm 7 0,xc 8 27 [.t 7],xm 6 8,xx 9 6 0,xx 10 6 1,xa 5 [(yi 0),(yi 0),(yi 0)],xm 4 9,xs 3 5 10]
abbrev o109_2:=[xf 11 0 5,xl 12 11,xd 13 .neq 12 0,xm 14 13,xu 14 15 (.mv (.t 4)),xu 14 16 (.len false (.t 15)),xu 14 17 (.bin .neq (.t 16) (xi 1)),xo 18 (.pick (.t 14) (.c (.b true)) (.t 17)),xm 19 18,xu 19 20 (.mv (.t 4)),xu 19 21 (.iad (.st 6) (.t 20) (xi 0)),xu 19 22 (.fad 1 (.t 21)),xu 19 23 (.load .one (.t 22)),xu 19 24 (.mv (.t 0)),
 xu 19 25 (.bin .neq (.t 23) (.t 24)),xo 26 (.pick (.t 19) (.c (.b true)) (.t 25))]
abbrev o109_3:=[xo 27 (.build [(yi 0),(.s []),(yi 0),(yi 0),(yi 0),(.b false)] []),xs 6 2 27,xv 3 (.b false)]
abbrev o109_4:=[xm 28 4,xo 29 (.iad (.st 6) (.t 28) (xi 0)),xe 30 6 29,xs 6 2 30,xv 3 (.b true)]
def a109:AFunc:=⟨(.seq (xr [0,2] o109_0) (.seq (xr [0,2,4,5] o109_1) (.seq (.seq (xr [2,4,26] o109_2) (.cond (.t 26) (.seq (xr [2,3] o109_3) .ret) .skip)) (.seq (xr [2,3] o109_4) .ret)))),
  [(.t 2,some (.st 6)),(.t 3,none)],false⟩
abbrev o110_0:=[xo 1 (.box (.t 0)),xv 2 (.b false)]
abbrev o110_1:=[xf 5 3 1,xl 6 5,xn 7 6,xf 8 4 1,xl 9 8,xn 10 9,xf 11 5 1,xl 12 11,xn 13 12,xf 14 6 1,xl 15 14,xn 16 15,xo 17 (.build [(yi 0),(yi 0),(yi 0),(yi 0)] [(0,1,(.t 7)),(1,1,(.t 10)),(2,1,(.t 13)),(3,1,(.t 16))]),xa 3 [(yi 0),(yi 0),(yi 0),(yi 0)],xs 4 3 17]
abbrev o110_2:=[xf 18 0 1,xl 19 18,xd 20 .eql 19 1,xm 21 20,xu 21 22 (.fad 0 (.t 1)),xu 21 23 (.load .one (.t 22)),xu 21 24 (.bin .eql (.t 23) (xi 2)),xo 25 (.pick (.t 21) (.c (.b true)) (.t 24)),xm 4 25]
abbrev o110_3:=[xm 26 4,xo 27 (.un .not (.t 26)),xm 28 27,xt 28 29 (.fad 1 (.t 1)),xt 28 30 (.load .one (.t 29)),xt 28 31 (.bin .neq (.t 30) (.c (.s []))),xo 32 (.pick (.t 28) (.t 31) (.c (.b false))),xm 33 32,xu 33 34 (.fad 0 (.t 1)),xu 33 35 (.load .one (.t 34)),xu 33 36 (.bin .neq (.t 35) (xi 3)),xu 33 37 (.mv (.t 36)),xt 37 38 (.fad 2 (.t 1)),
 xt 37 39 (.load .one (.t 38)),xt 37 40 (.bin .neq (.t 39) (xi 0)),xu 33 41 (.pick (.t 37) (.t 40) (.c (.b false))),xo 42 (.pick (.t 33) (.c (.b true)) (.t 41)),xm 43 42,xu 43 44 (.fad 4 (.t 1)),xu 43 45 (.load .one (.t 44)),xu 43 46 (.call (.c (.clo 130 [])) [.t 45,(.c (.clo 110 []))] false),xu 43 47 (.un .not (.t 46)),xo 48 (.pick (.t 43) (.c (.b true)) (.t 47))]
abbrev o110_4:=[xv 2 (.b false)]
abbrev o110_5:=[xf 49 0 1,xl 50 49]
abbrev o110_6:=[xd 52 .eql 50 1,xm 51 52]
abbrev o110_7:=[xe 53 4 3,xo 54 (.build [(yi 0),(yi 0),(yi 0),(yi 0)] []),xo 55 (.eqs 4 false (.t 53) (.t 54)),xm 56 55,xt 56 57 (.fad 1 (.t 1)),xt 56 58 (.load .one (.t 57)),xt 56 59 (.call (.c (.clo 74 [])) [.t 58] false),xo 60 (.pick (.t 56) (.t 59) (.c (.b false))),xm 2 60]
abbrev o110_8:=[xd 62 .eql 50 2,xm 61 62]
abbrev o110_9:=[xe 63 4 3,xo 64 (.build [(yi 0),(yi 0),(yi 0),(yi 0)] []),xo 65 (.eqs 4 false (.t 63) (.t 64)),xm 66 65,xt 66 67 (.fad 1 (.t 1)),xt 66 68 (.load .one (.t 67)),xt 66 69 (.call (.c (.clo 68 [])) [.t 68,(xi 2)] false),xo 70 (.pick (.t 66) (.t 69) (.c (.b false))),xm 2 70]
abbrev o110_10:=[xd 72 .eql 50 3,xm 71 72]
abbrev o110_11:=[xe 73 4 3,xo 74 (.build [(yi 0),(yi 0),(yi 0),(yi 0)] []),xo 75 (.eqs 4 false (.t 73) (.t 74)),xm 2 75]
abbrev o110_12:=[xd 77 .eql 50 4,xm 76 77]
abbrev o110_13:=[xe 78 4 3,xo 79 (.build [(yi 0),(yi 0),(yi 0),(yi 0)] [(1,1,(xi 2))]),xo 80 (.eqs 4 false (.t 78) (.t 79)),xm 2 80]
abbrev o110_14:=[xd 82 .eql 50 5,xm 81 82]
abbrev o110_15:=[xf 83 0 3,xl 84 83,xd 85 .gtr 84 0,xm 86 85,xt 86 87 (.load (.st 4) (.t 3)),xt 86 88 (.fad 0 (.t 3)),xt 86 89 (.load .one (.t 88)),xt 86 90 (.build [(yi 0),(yi 0),(yi 0),(yi 0)] [(0,1,(.t 89)),(1,1,(xi 1))]),xt 86 91 (.eqs 4 false (.t 87) (.t 90)),xo 92 (.pick (.t 86) (.t 91) (.c (.b false))),xm 93 92,xt 93 94 (.fad 3 (.t 1)),
 xt 93 95 (.load .one (.t 94)),xt 93 96 (.call (.c (.clo 69 [])) [.t 95,(.c (.clo 131 []))] false),xo 97 (.pick (.t 93) (.t 96) (.c (.b false))),xm 2 97]
abbrev o110_16:=[xd 99 .eql 50 6,xm 98 99]
abbrev o110_17:=[xf 100 3 3,xl 101 100,xd 102 .gtr 101 0,xm 103 102,xt 103 104 (.load (.st 4) (.t 3)),xt 103 105 (.fad 3 (.t 3)),xt 103 106 (.load .one (.t 105)),xt 103 107 (.build [(yi 0),(yi 0),(yi 0),(yi 0)] [(1,1,(xi 1)),(3,1,(.t 106))]),xt 103 108 (.eqs 4 false (.t 104) (.t 107)),xo 109 (.pick (.t 103) (.t 108) (.c (.b false))),xm 110 109,
 xt 110 111 (.fad 6 (.t 1)),xt 110 112 (.load .one (.t 111)),xt 110 113 (.call (.c (.clo 40 [])) [.t 112] false),xo 114 (.pick (.t 110) (.t 113) (.c (.b false))),xm 2 114]
abbrev o110_18:=[xd 116 .eql 50 7,xm 115 116]
abbrev o110_19:=[xf 117 2 3,xl 118 117,xd 119 .gtr 118 0,xm 120 119,xt 120 121 (.load (.st 4) (.t 3)),xt 120 122 (.fad 2 (.t 3)),xt 120 123 (.load .one (.t 122)),xt 120 124 (.build [(yi 0),(yi 0),(yi 0),(yi 0)] [(1,1,(xi 1)),(2,1,(.t 123))]),xt 120 125 (.eqs 4 false (.t 121) (.t 124)),xo 126 (.pick (.t 120) (.t 125) (.c (.b false))),xm 127 126,
 xt 127 128 (.fad 5 (.t 1)),xt 127 129 (.load .one (.t 128)),xt 127 130 (.call (.c (.clo 132 [])) [.t 129,(.c (.clo 133 []))] false),xo 131 (.pick (.t 127) (.t 130) (.c (.b false))),xm 2 131]
abbrev o110_20:=[xd 133 .eql 50 8,xm 132 133]
abbrev o110_21:=[xe 134 4 3,xo 135 (.build [(yi 0),(yi 0),(yi 0),(yi 0)] [(1,1,(xi 3))]),xo 136 (.eqs 4 false (.t 134) (.t 135)),xm 2 136]
abbrev o110_22:=[xv 2 (.b false)]
def a110:AFunc:=⟨(.seq (xr [1] o110_0) (.seq (xr [1,3] o110_1) (.seq (xr [1,3,4] o110_2) (.seq (.seq (xr [1,3,48] o110_3) (.cond (.t 48) (.seq (xr [2] o110_4) .ret) .skip)) (.seq (.seq (xr [1,3,50] o110_5) (.block 0 (.seq (xr [1,3,50,51] o110_6) (.cond (.t 51) (.seq (xr [2] o110_7) .ret) (.seq (xr [1,3,50,61] o110_8) (.cond (.t 61) (.seq (xr [2] o110_9) .ret) (.seq (xr [1,3,50,71] o110_10) (.cond (.t 71) (.seq (xr [2] o110_11) .ret) (.seq (xr [1,3,50,76] o110_12) (.cond (.t 76) (.seq (xr [2] o110_13) .ret) (.seq (xr [1,3,50,81] o110_14) (.cond (.t 81) (.seq (xr [2] o110_15) .ret) (.seq (xr [1,3,50,98] o110_16) (.cond (.t 98) (.seq (xr [2] o110_17) .ret) (.seq (xr [1,3,50,115] o110_18) (.cond (.t 115) (.seq (xr [2] o110_19) .ret) (.seq (xr [3,132] o110_20) (.cond (.t 132) (.seq (xr [2] o110_21) .ret) .skip)))))))))))))))))) (.seq (xr [2] o110_22) .ret)))))),
  [(.t 2,none)],false⟩
abbrev o111_0:=[xv 4 (.b false)]
abbrev o111_1:=[xm 7 0,xn 8 7,xv 9 (yi 0)]
abbrev o111_2:=[xb 10 .lss 9 8]
abbrev o111_3:=[xo 11 (.iad (.st 10) (.t 7) (.t 9)),xe 12 10 11,xa 6 [.nsl,(yi 0),(.s []),(yi 0),.nsl,.nsl,.nsl,.nsl,(yi 0),(yi 0)],xs 10 6 12]
abbrev o111_4:=[xm 13 1,xe 14 10 6,xo 15 (.call (.t 13) [.t 14] false),xo 16 (.un .not (.t 15))]
abbrev o111_5:=[xv 4 (.b false)]
abbrev o111_6:=[xd 17 .add 9 1,xm 9 17]
def l111_0:ACode:=(.loop (.trn (.seq (xr [1,7,8,9,10] o111_2) (.seq (.cond (.t 10) .skip (.exit 0)) (.seq (.block 1 (.seq (xr [1,6,7,8,9] o111_3) (.seq (xr [1,7,8,9,16] o111_4) (.cond (.t 16) (.seq (xr [4] o111_5) .ret) .skip)))) (xr [1,7,8,9] o111_6))))))
abbrev o111_7:=[xv 4 (.b true)]
def a111:AFunc:=⟨(.seq (xr [0,1] o111_0) (.seq (.seq (xr [1,7,8,9] o111_1) (.block 0 l111_0)) (.seq (xr [4] o111_7) .ret))),
  [(.t 4,none)],false⟩
abbrev o112_0:=[xo 1 (.box (.t 0)),xv 2 (.b false)]
abbrev o112_1:=[xf 3 0 1,xl 4 3,xn 5 4,xd 6 .eql 5 1,xm 7 6,xt 7 8 (.fad 0 (.t 1)),xt 7 9 (.load .one (.t 8)),xt 7 10 (.iad (.st 9) (.t 9) (xi 0)),xt 7 11 (.load (.st 9) (.t 10)),xt 7 12 (.call (.c (.clo 110 [])) [.t 11] false),xo 13 (.pick (.t 7) (.t 12) (.c (.b false))),xm 14 13,xt 14 15 (.fad 1 (.t 1)),xt 14 16 (.load (.st 9) (.t 15)),
 xt 14 17 (.call (.c (.clo 110 [])) [.t 16] false),xo 18 (.pick (.t 14) (.t 17) (.c (.b false))),xm 2 18]
def a112:AFunc:=⟨(.seq (xr [1] o112_0) (.seq (xr [2] o112_1) .ret)),
  [(.t 2,none)],false⟩
abbrev o113_0:=[xo 4 (.box (.t 1)),xv 6 .nsl]
abbrev o113_1:=[xf 11 0 4,xl 12 11]
abbrev o113_2:=[xd 14 .eql 12 2,xm 13 14]
abbrev o113_3:=[xm 15 2,xf 16 1 4,xl 17 16,xc 18 20 [.t 15,.t 17]]
abbrev o113_4:=[xm 19 0,xf 20 4 4,xe 21 2 20,xc 22 21 [.t 19,(xi 80),.t 21]]
abbrev o113_5:=[xm 23 2,xf 24 1 4,xl 25 24,xo 26 (.bsl .one [(.s [])] 1 [(0,1,(.t 25))]),xo 27 (.app .one (.t 23) (.t 26) false),xm 6 27]
abbrev o113_6:=[xd 29 .eql 12 4,xm 28 29]
abbrev o113_7:=[xm 31 0,xk 32 31,xf 33 0 32,xl 34 33,xf 35 1 4,xl 36 35,xa 7 [(.s []),(.s []),(yi 0),(yi 0),.nsl],⟨some 37,(.call (.c (.clo 134 [])) [.t 34,.t 36] false),none,[(7,none,(.alloc [(.s []),(.s []),(yi 0),(yi 0),.nsl]))]⟩,xm 30 37,xx 38 30 0,xx 39 30 1,xs 5 7 38,xm 8 39]
abbrev o113_8:=[xm 41 8,xo 42 (.un .not (.t 41)),xm 40 42]
abbrev o113_9:=[xm 43 0,xf 44 4 4,xe 45 2 44,xc 46 21 [.t 43,(xi 81),.t 45]]
abbrev o113_10:=[xf 48 4 7,xl 49 48,xn 50 49,xf 51 3 4,xl 52 51,xn 53 52,xb 54 .neq 50 53,xm 47 54]
abbrev o113_11:=[xm 55 0,xf 56 4 4,xe 57 2 56,xc 58 21 [.t 55,(xi 82),.t 57]]
abbrev o113_12:=[xf 59 3 4,xl 60 59,xn 61 60,xv 62 (yi 0)]
abbrev o113_13:=[xb 63 .lss 62 61]
abbrev o113_14:=[xo 64 (.iad (.st 6) (.t 60) (.t 62)),xe 65 6 64,xa 10 [(yi 0),(.s []),(yi 0),.nsl,(yi 0),(yi 0)],xs 6 10 65]
abbrev o113_15:=[xm 66 0,xe 67 6 10,xm 68 2,xc 69 113 [.t 66,.t 67,.t 68],xm 2 69]
abbrev o113_16:=[xd 70 .add 62 1,xm 62 70]
def l113_0:ACode:=(.loop (.trn (.seq (xr [0,2,60,61,62,63] o113_13) (.seq (.cond (.t 63) .skip (.exit 2)) (.seq (.block 3 (.seq (xr [0,2,10,60,61,62] o113_14) (xr [0,2,60,61,62] o113_15))) (xr [0,2,60,61,62] o113_16))))))
abbrev o113_17:=[xm 71 2,xm 6 71]
def a113:AFunc:=⟨(.seq (xr [0,2,4] o113_0) (.seq (.seq (xr [0,2,4,12] o113_1) (.block 0 (.seq (xr [0,2,4,12,13] o113_2) (.cond (.t 13) (.seq (.seq (xr [0,2,4,18] o113_3) (.cond (.t 18) (xr [2,4] o113_4) .skip)) (.seq (xr [6] o113_5) .ret)) (.seq (xr [0,2,4,28] o113_6) (.cond (.t 28) (.seq (xr [0,2,4,7,8] o113_7) (.seq (.block 1 (.seq (xr [0,2,4,7,40] o113_8) (.cond (.t 40) (xr [0,2,4] o113_9) (.seq (xr [0,2,4,47] o113_10) (.cond (.t 47) (xr [0,2,4] o113_11) .skip))))) (.seq (xr [0,2,60,61,62] o113_12) (.block 2 l113_0)))) .skip)))))) (.seq (xr [6] o113_17) .ret))),
  [(.t 6,none)],false⟩
abbrev o114_0:=[xl 2 0,xl 3 1,xc 4 115 [.t 2,.t 3]]
def a114:AFunc:=⟨(xr [] o114_0),
  [],false⟩
abbrev o115_0:=[xm 8 1,xn 9 8,xv 10 (yi 0)]
abbrev o115_1:=[xb 11 .lss 10 9]
abbrev o115_2:=[xo 12 (.iad (.st 10) (.t 8) (.t 10)),xe 13 10 12,xa 5 [.nsl,(yi 0),(.s []),(yi 0),.nsl,.nsl,.nsl,.nsl,(yi 0),(yi 0)],xs 10 5 13]
abbrev o115_3:=[xf 14 0 5,xl 15 14,xn 16 15,xv 17 (yi 0)]
abbrev o115_4:=[xb 18 .lss 17 16]
abbrev o115_5:=[xo 19 (.iad (.st 9) (.t 15) (.t 17)),xe 20 9 19,xa 7 [(yi 0),(.s []),(yi 0),.nsl,.nsl,.nsl,.nsl,(yi 0),(yi 0)],xs 9 7 20]
abbrev o115_6:=[xm 21 0,xe 22 9 7,xc 23 135 [.t 21,.t 22]]
abbrev o115_7:=[xd 24 .add 17 1,xm 17 24]
def l115_0:ACode:=(.loop (.trn (.seq (xr [0,5,8,9,10,15,16,17,18] o115_4) (.seq (.cond (.t 18) .skip (.exit 2)) (.seq (.block 3 (.seq (xr [0,5,7,8,9,10,15,16,17] o115_5) (xr [0,5,8,9,10,15,16,17] o115_6))) (xr [0,5,8,9,10,15,16,17] o115_7))))))
abbrev o115_8:=[xm 25 0,xf 26 1 5,xe 27 9 26,xc 28 135 [.t 25,.t 27]]
abbrev o115_9:=[xd 29 .add 10 1,xm 10 29]
def l115_1:ACode:=(.loop (.trn (.seq (xr [0,8,9,10,11] o115_1) (.seq (.cond (.t 11) .skip (.exit 0)) (.seq (.block 1 (.seq (xr [0,5,8,9,10] o115_2) (.seq (.seq (xr [0,5,8,9,10,15,16,17] o115_3) (.block 2 l115_0)) (xr [0,8,9,10] o115_8)))) (xr [0,8,9,10] o115_9))))))
def a115:AFunc:=⟨(.seq (xr [0,8,9,10] o115_0) (.block 0 l115_1)),
  [],false⟩
abbrev o116_0:=[xa 4 [(yi 0),(yi 0)]]
abbrev o116_1:=[xm 5 0,xk 6 5,xf 7 6 6,xl 8 7,xd 9 .add 8 1,xk 10 5,xf 11 6 10,xs 1 11 9]
abbrev o116_2:=[xm 12 0,xk 13 12,xf 14 1 13,xl 15 14,xm 16 1,xm 17 0,xk 18 17,xf 19 2 18,xl 20 19,xm 21 1,xm 22 0,xk 23 22,xf 24 6 23,xl 25 24,xm 26 0,xk 27 26,xf 28 6 27,xl 29 28,xq 30 15 16,xs 1 30 25,xq 31 20 21,xs 1 31 29]
abbrev o116_3:=[xm 32 0,xm 33 0,xk 34 33,xf 35 3 34,xl 36 35,xm 37 1,xo 38 (.bsl .one [(yi 0)] 1 [(0,1,(.t 37))]),xo 39 (.app .one (.t 36) (.t 38) false),xk 40 32,xf 41 3 40,xs 1 41 39]
abbrev o116_4:=[xm 42 0,xk 43 42,xf 44 4 43,xl 45 44,xm 46 1,xq 47 45 46,⟨none,(.store 1 (.t 47) (.c (.b true)) false),none,[]⟩]
abbrev o116_5:=[xm 48 1,xo 49 (.build [(yi 0),(yi 0)] [(0,1,(.t 48))]),xs 2 4 49]
def a116:AFunc:=⟨(.seq (xr [0,1,4] o116_0) (.seq (xr [0,1,4] o116_1) (.seq (xr [0,1,4] o116_2) (.seq (xr [0,1,4] o116_3) (.seq (xr [1,4] o116_4) (.seq (xr [4] o116_5) .ret)))))),
  [(.t 4,some (.st 2))],false⟩
abbrev o117_0:=[xm 5 0,xk 6 5,xf 7 2 6,xl 8 7,xm 9 1,xq 10 8 9,xl 11 10,xm 12 0,xk 13 12,xf 14 1 13,xl 15 14,xm 16 1,xq 17 15 16,xl 18 17,xb 19 .neq 11 18]
abbrev o117_1:=[xm 20 0,xk 21 20,xf 22 3 21,xl 23 22,xm 24 0,xk 25 24,xf 26 3 25,xl 27 26,xn 28 27,xd 29 .sub 28 1,xq 30 23 29,xl 31 30,xm 4 31]
abbrev o117_2:=[xm 32 0,xm 33 0,xk 34 33,xf 35 3 34,xl 36 35,xm 37 0,xk 38 37,xf 39 3 38,xl 40 39,xn 41 40,xd 42 .sub 41 1,xo 43 (.slc false (.t 36) none (some (.t 42))),xk 44 32,xf 45 3 44,xs 1 45 43]
abbrev o117_3:=[xm 46 0,xk 47 46,xf 48 4 47,xl 49 48,xm 50 4,xq 51 49 50,⟨none,(.store 1 (.t 51) (.c (.b false)) false),none,[]⟩]
abbrev o117_4:=[xm 52 0,xk 53 52,xf 54 5 53,xl 55 54,xm 56 4,xm 57 0,xk 58 57,xf 59 7 58,xl 60 59,xq 61 55 56,xs 1 61 60]
abbrev o117_5:=[xm 62 4,xm 63 1,xb 64 .eql 62 63]
def l117_0:ACode:=(.loop (.block 1 (.seq (xr [0,1,4] o117_1) (.seq (xr [0,1,4] o117_2) (.seq (xr [0,1,4] o117_3) (.seq (xr [0,1,4] o117_4) (.seq (xr [0,1,64] o117_5) (.cond (.t 64) (.exit 0) .skip))))))))
abbrev o117_6:=[xm 65 0,xk 66 65,xf 67 7 66,xl 68 67,xd 69 .add 68 1,xk 70 65,xf 71 7 70,xs 1 71 69]
def a117:AFunc:=⟨(.seq (.seq (xr [0,1,19] o117_0) (.cond (.t 19) .ret .skip)) (.seq (.block 0 l117_0) (xr [] o117_6))),
  [],false⟩
abbrev o118_0:=[xf 4 4 0,xl 5 4,xn 6 5,xv 7 (yi 0)]
abbrev o118_1:=[xb 8 .lss 7 6]
abbrev o118_2:=[xo 9 (.iad (.st 9) (.t 5) (.t 7)),xe 10 9 9,xa 3 [(yi 0),(.s []),(yi 0),.nsl,.nsl,.nsl,.nsl,(yi 0),(yi 0)],xs 9 3 10]
abbrev o118_3:=[xl 11 1,xe 12 9 3,xc 13 88 [.t 11,.t 12]]
abbrev o118_4:=[xd 14 .add 7 1,xm 7 14]
def l118_0:ACode:=(.loop (.trn (.seq (xr [1,5,6,7,8] o118_1) (.seq (.cond (.t 8) .skip (.exit 0)) (.seq (.block 1 (.seq (xr [1,3,5,6,7] o118_2) (xr [1,5,6,7] o118_3))) (xr [1,5,6,7] o118_4))))))
def a118:AFunc:=⟨(.seq (xr [1,5,6,7] o118_0) (.block 0 l118_0)),
  [],false⟩
abbrev o119_0:=[xm 4 0,xk 5 4,xf 6 0 5,xl 7 6,xm 8 1,xc 9 20 [.t 7,.t 8],xo 10 (.un .not (.t 9)),xm 11 10,xt 11 12 (.mv (.t 0)),xt 11 13 (.nck (.t 12)),xt 11 14 (.fad 1 (.t 13)),xt 11 15 (.load .one (.t 14)),xt 11 16 (.mv (.t 1)),xt 11 17 (.call (.c (.clo 20 [])) [.t 15,.t 16] false),xt 11 18 (.un .not (.t 17)),xo 19 (.pick (.t 11) (.t 18) (.c (.b false)))]
abbrev o119_1:=[xm 20 0,xm 21 0,xk 22 21,xf 23 1 22,xl 24 23,xm 25 1,xo 26 (.bsl .one [(.s [])] 1 [(0,1,(.t 25))]),xo 27 (.app .one (.t 24) (.t 26) false),xk 28 20,xf 29 1 28,xs 1 29 27]
def a119:AFunc:=⟨(.seq (xr [0,1,19] o119_0) (.cond (.t 19) (xr [] o119_1) .skip)),
  [],false⟩
abbrev o120_0:=[xo 1 (.box (.t 0)),xv 2 (.b false)]
abbrev o120_1:=[xf 6 1 1,xl 7 6,xc 8 109 [.t 7],xm 5 8,xx 9 5 0,xx 10 5 1,xa 3 [(yi 0),(.s []),(yi 0),(yi 0),(yi 0),(.b false)],xs 6 3 9,xm 4 10]
abbrev o120_2:=[xf 11 0 1,xl 12 11,xd 13 .eql 12 1,xm 14 13,xt 14 15 (.mv (.t 4)),xo 16 (.pick (.t 14) (.t 15) (.c (.b false))),xm 17 16,xt 17 18 (.fad 0 (.t 3)),xt 17 19 (.load .one (.t 18)),xt 17 20 (.bin .eql (.t 19) (xi 3)),xo 21 (.pick (.t 17) (.t 20) (.c (.b false))),xm 2 21]
def a120:AFunc:=⟨(.seq (xr [1] o120_0) (.seq (xr [1,3,4] o120_1) (.seq (xr [2] o120_2) .ret))),
  [(.t 2,none)],false⟩
abbrev o121_0:=[xv 2 .nsl]
abbrev o121_1:=[xv 3 .nsl]
abbrev o121_2:=[xm 6 0,xn 7 6,xv 8 (yi 0)]
abbrev o121_3:=[xb 9 .lss 8 7]
abbrev o121_4:=[xq 10 6 8,xl 11 10,xm 5 11]
abbrev o121_5:=[xm 12 5,xo 13 (.bin .neq (.t 12) (.c (.s [95])))]
abbrev o121_6:=[xm 14 3,xm 15 5,xo 16 (.bsl .one [(.s [])] 1 [(0,1,(.t 15))]),xo 17 (.app .one (.t 14) (.t 16) false),xm 3 17]
abbrev o121_7:=[xd 18 .add 8 1,xm 8 18]
def l121_0:ACode:=(.loop (.seq (xr [3,6,7,8,9] o121_3) (.seq (.cond (.t 9) .skip (.exit 0)) (.seq (.block 1 (.seq (xr [3,5,6,7,8] o121_4) (.seq (xr [3,5,6,7,8,13] o121_5) (.cond (.t 13) (xr [3,6,7,8] o121_6) .skip)))) (xr [3,6,7,8] o121_7)))))
abbrev o121_8:=[xm 19 3,xm 2 19]
def a121:AFunc:=⟨(.seq (xr [0] o121_0) (.seq (xr [0,3] o121_1) (.seq (.seq (xr [3,6,7,8] o121_2) (.block 0 l121_0)) (.seq (xr [2] o121_8) .ret)))),
  [(.t 2,none)],true⟩
abbrev o122_0:=[xv 2 .nsl]
abbrev o122_1:=[xv 3 .nsl]
abbrev o122_2:=[xm 6 0,xn 7 6,xv 8 (yi 0)]
abbrev o122_3:=[xb 9 .lss 8 7]
abbrev o122_4:=[xo 10 (.iad (.st 4) (.t 6) (.t 8)),xe 11 4 10,xa 5 [(.s []),.nsl,(yi 0),(yi 0)],xs 4 5 11]
abbrev o122_5:=[xm 12 3,xf 13 0 5,xl 14 13,xo 15 (.bsl .one [(.s [])] 1 [(0,1,(.t 14))]),xo 16 (.app .one (.t 12) (.t 15) false),xm 3 16]
abbrev o122_6:=[xd 17 .add 8 1,xm 8 17]
def l122_0:ACode:=(.loop (.trn (.seq (xr [3,6,7,8,9] o122_3) (.seq (.cond (.t 9) .skip (.exit 0)) (.seq (.block 1 (.seq (xr [3,5,6,7,8] o122_4) (xr [3,6,7,8] o122_5))) (xr [3,6,7,8] o122_6))))))
abbrev o122_7:=[xm 18 3,xm 2 18]
def a122:AFunc:=⟨(.seq (xr [0] o122_0) (.seq (xr [0,3] o122_1) (.seq (.seq (xr [3,6,7,8] o122_2) (.block 0 l122_0)) (.seq (xr [2] o122_7) .ret)))),
  [(.t 2,none)],true⟩
abbrev o123_0:=[xl 3 0,xf 4 6 1,xl 5 4,xc 6 26 [.t 3,.t 5]]
abbrev o123_1:=[xl 7 2,xo 8 (.call (.t 7) [] false)]
def a123:AFunc:=⟨(.seq (xr [2] o123_0) (xr [] o123_1)),
  [],false⟩
abbrev o124_0:=[xv 2 (.b false)]
abbrev o124_1:=[xm 3 0]
abbrev o124_2:=[xo 5 (.bin .eql (.t 3) (.c (.s [100,97,116,97]))),xm 4 5]
abbrev o124_3:=[xo 6 (.bin .eql (.t 3) (.c (.s [105,110,102,105,120,108]))),xm 4 6]
abbrev o124_4:=[xo 7 (.bin .eql (.t 3) (.c (.s [105,110,102,105,120,114]))),xm 4 7]
abbrev o124_5:=[xo 8 (.bin .eql (.t 3) (.c (.s [105,110,102,105,120]))),xm 4 8]
abbrev o124_6:=[xo 9 (.bin .eql (.t 3) (.c (.s [108,101,116]))),xm 4 9]
abbrev o124_7:=[xo 10 (.bin .eql (.t 3) (.c (.s [105,110]))),xm 4 10]
abbrev o124_8:=[xo 11 (.bin .eql (.t 3) (.c (.s [99,97,115,101]))),xm 4 11]
abbrev o124_9:=[xo 12 (.bin .eql (.t 3) (.c (.s [111,102]))),xm 4 12]
abbrev o124_10:=[xo 13 (.bin .eql (.t 3) (.c (.s [105,102]))),xm 4 13]
abbrev o124_11:=[xo 14 (.bin .eql (.t 3) (.c (.s [116,104,101,110]))),xm 4 14]
abbrev o124_12:=[xo 15 (.bin .eql (.t 3) (.c (.s [101,108,115,101]))),xm 4 15]
abbrev o124_13:=[xv 2 (.b true)]
abbrev o124_14:=[xv 2 (.b false)]
def a124:AFunc:=⟨(.seq (xr [0] o124_0) (.seq (.seq (xr [3] o124_1) (.block 0 (.seq (.seq (xr [3,4] o124_2) (.cond (.t 4) .skip (.seq (xr [3,4] o124_3) (.cond (.t 4) .skip (.seq (xr [3,4] o124_4) (.cond (.t 4) .skip (.seq (xr [3,4] o124_5) (.cond (.t 4) .skip (.seq (xr [3,4] o124_6) (.cond (.t 4) .skip (.seq (xr [3,4] o124_7) (.cond (.t 4) .skip (.seq (xr [3,4] o124_8) (.cond (.t 4) .skip (.seq (xr [3,4] o124_9) (.cond (.t 4) .skip (.seq (xr [3,4] o124_10) (.cond (.t 4) .skip (.seq (xr [3,4] o124_11) (.cond (.t 4) .skip (xr [4] o124_12))))))))))))))))))))) (.cond (.t 4) (.seq (xr [2] o124_13) .ret) .skip)))) (.seq (xr [2] o124_14) .ret))),
  [(.t 2,none)],false⟩
abbrev o125_0:=[xv 2 (yi 0),xv 3 (yi 0)]
abbrev o125_1:=[xm 10 0,xm 4 10]
abbrev o125_2:=[xm 11 0,xo 12 (.len true (.t 11)),xd 13 .gtr 12 0,xm 14 13,xt 14 15 (.mv (.t 0)),xt 14 16 (.idx (.t 15) (xi 0)),xt 14 17 (.bin .eql (.t 16) (.c (.i .u8 45))),xo 18 (.pick (.t 14) (.t 17) (.c (.b false))),xm 5 18]
abbrev o125_3:=[xm 19 5]
abbrev o125_4:=[xm 20 0,xo 21 (.slc true (.t 20) (some (xi 1)) none),xm 4 21]
abbrev o125_5:=[xm 22 4,xo 23 (.bin .eql (.t 22) (.c (.s []))),xm 24 23,xu 24 25 (.mv (.t 4)),xu 24 26 (.len true (.t 25)),xu 24 27 (.bin .gtr (.t 26) (xi 19)),xo 28 (.pick (.t 24) (.c (.b true)) (.t 27)),xm 29 28,xu 29 30 (.mv (.t 4)),xu 29 31 (.idx (.t 30) (xi 0)),xu 29 32 (.bin .eql (.t 31) (.c (.i .u8 48))),xu 29 33 (.mv (.t 32)),xt 33 34 (.mv (.t 0)),
 xt 33 35 (.len true (.t 34)),xt 33 36 (.bin .gtr (.t 35) (xi 1)),xu 29 37 (.pick (.t 33) (.t 36) (.c (.b false))),xo 38 (.pick (.t 29) (.c (.b true)) (.t 37))]
abbrev o125_6:=[xv 2 (yi 0),xv 3 (yi 11)]
abbrev o125_7:=[xv 6 (.i .u64 0)]
abbrev o125_8:=[xv 7 (.b true)]
abbrev o125_9:=[xv 8 (yi 0)]
abbrev o125_10:=[xm 39 8,xm 40 4,xo 41 (.len true (.t 40)),xb 42 .lss 39 41]
abbrev o125_11:=[xm 45 4,xm 46 8,xo 47 (.idx (.t 45) (.t 46)),xm 9 47]
abbrev o125_12:=[xm 48 9,xo 49 (.bin .lss (.t 48) (.c (.i .u8 48))),xm 50 49,xu 50 51 (.mv (.t 9)),xu 50 52 (.bin .gtr (.t 51) (.c (.i .u8 57))),xo 53 (.pick (.t 50) (.c (.b true)) (.t 52))]
abbrev o125_13:=[xv 7 (.b false)]
abbrev o125_14:=[xm 54 6,xo 55 (.bin .mul (.t 54) (.c (.i .u64 10))),xm 56 9,xo 57 (.bin .sub (.t 56) (.c (.i .u8 48))),xo 58 (.conv .u64 (.t 57)),xb 59 .add 55 58,xm 6 59]
abbrev o125_15:=[xm 43 8,xd 44 .add 43 1,xm 8 44]
def l125_0:ACode:=(.loop (.seq (.seq (xr [4,5,6,7,8,42] o125_10) (.cond (.t 42) .skip (.exit 0))) (.seq (.block 1 (.seq (xr [4,5,6,7,8,9] o125_11) (.seq (.seq (xr [4,5,6,7,8,9,53] o125_12) (.cond (.t 53) (.seq (xr [5,6,7] o125_13) (.exit 0)) .skip)) (xr [4,5,6,7,8] o125_14)))) (xr [4,5,6,7,8] o125_15))))
abbrev o125_16:=[xm 60 7,xo 61 (.un .not (.t 60)),xm 62 61,xu 62 63 (.mv (.t 6)),xu 62 64 (.bin .gtr (.t 63) (.c (.i .u64 9223372036854775808))),xo 65 (.pick (.t 62) (.c (.b true)) (.t 64)),xm 66 65,xu 66 67 (.mv (.t 6)),xu 66 68 (.bin .eql (.t 67) (.c (.i .u64 9223372036854775808))),xu 66 69 (.mv (.t 68)),xt 69 70 (.mv (.t 5)),xt 69 71 (.un .not (.t 70)),
 xu 66 72 (.pick (.t 69) (.t 71) (.c (.b false))),xo 73 (.pick (.t 66) (.c (.b true)) (.t 72))]
abbrev o125_17:=[xv 2 (yi 0),xv 3 (yi 11)]
abbrev o125_18:=[xm 74 5]
abbrev o125_19:=[xm 75 6,xo 76 (.un .neg (.t 75)),xm 6 76]
abbrev o125_20:=[xm 77 6,xo 78 (.conv .i64 (.t 77)),xm 2 78,xv 3 (yi 0)]
def a125:AFunc:=⟨(.seq (xr [0] o125_0) (.seq (xr [0,4] o125_1) (.seq (xr [0,4,5] o125_2) (.seq (.seq (xr [0,4,5,19] o125_3) (.cond (.t 19) (xr [0,4,5] o125_4) .skip)) (.seq (.seq (xr [4,5,38] o125_5) (.cond (.t 38) (.seq (xr [2,3] o125_6) .ret) .skip)) (.seq (xr [4,5,6] o125_7) (.seq (xr [4,5,6,7] o125_8) (.seq .skip (.seq (.seq (xr [4,5,6,7,8] o125_9) (.block 0 l125_0)) (.seq (.seq (xr [5,6,73] o125_16) (.cond (.t 73) (.seq (xr [2,3] o125_17) .ret) .skip)) (.seq (.seq (xr [6,74] o125_18) (.cond (.t 74) (xr [6] o125_19) .skip)) (.seq (xr [2,3] o125_20) .ret)))))))))))),
  [(.t 2,none),(.t 3,none)],false⟩
abbrev o126_0:=[xa 2 [(yi 0),(yi 0),(.s []),.nsl]]
abbrev o126_1:=[xo 5 (.build [(yi 0),(yi 0),(.s []),.nsl] []),xa 3 [(yi 0),(yi 0),(.s []),.nsl],xs 4 3 5]
abbrev o126_2:=[xm 6 0,xc 7 61 [.t 6,(xi 2)]]
abbrev o126_3:=[xm 8 0,xc 9 30 [.t 8],xo 10 (.fld 1 .one (.t 9)),xo 11 (.build [(yi 0),(yi 0),(.s []),.nsl] [(0,1,(xi 2)),(2,1,(.t 10))]),xs 4 3 11]
abbrev o126_4:=[xm 12 0,xc 13 100 [.t 12]]
abbrev o126_5:=[xf 14 3 3,xl 15 14,xm 16 0,⟨some 17,(.call (.c (.clo 101 [])) [.t 16] false),none,[(15,none,(.load .one (.t 14)))]⟩,xo 18 (.bsl (.st 4) [(yi 0),(yi 0),(.s []),.nsl] 1 [(0,4,(.t 17))]),xo 19 (.app (.st 4) (.t 15) (.t 18) false),xf 20 3 3,xs 1 20 19]
def l126_0:ACode:=(.loop (.seq (.seq (xr [0,2,3,13] o126_4) (.cond (.t 13) .skip (.exit 0))) (.block 1 (xr [0,2,3] o126_5))))
abbrev o126_6:=[xm 21 0,xc 22 101 [.t 21],xs 4 3 22]
abbrev o126_7:=[xm 23 0,xo 24 (.call (.c (.clo 29 [])) [.t 23,(.c (.s [45,62]))] false)]
abbrev o126_8:=[xm 25 0,xc 26 30 [.t 25]]
abbrev o126_9:=[xm 27 0,xc 28 126 [.t 27],xa 4 [(yi 0),(yi 0),(.s []),.nsl],xs 4 4 28]
abbrev o126_10:=[xe 29 4 3,xe 30 4 4,xo 31 (.bsl (.st 4) [(yi 0),(yi 0),(.s []),.nsl] 2 [(0,4,(.t 29)),(4,4,(.t 30))]),xo 32 (.build [(yi 0),(yi 0),(.s []),.nsl] [(0,1,(xi 3)),(3,1,(.t 31))]),xs 4 2 32]
abbrev o126_11:=[xe 33 4 3,xs 4 2 33]
def a126:AFunc:=⟨(.seq (xr [0,2] o126_0) (.seq (xr [0,2,3] o126_1) (.seq (.seq (xr [0,2,3,7] o126_2) (.cond (.t 7) (.seq (xr [0,2,3] o126_3) (.block 0 l126_0)) (xr [0,2,3] o126_6))) (.seq (.seq (xr [0,2,3,24] o126_7) (.cond (.t 24) (.seq (xr [0,2,3] o126_8) (.seq (xr [2,3,4] o126_9) (.seq (xr [2] o126_10) .ret))) .skip)) (.seq (xr [2] o126_11) .ret))))),
  [(.t 2,some (.st 4))],true⟩
abbrev o127_0:=[xo 1 (.box (.t 0)),xa 2 [(yi 0),(.s []),(yi 0),.nsl,.nsl,.nsl,.nsl,(yi 0),(yi 0)]]
abbrev o127_1:=[xl 11 1,xc 12 59 [.t 11],xo 13 (.fld 3 (.st 2) (.t 12)),xa 3 [(yi 0),(yi 0)],xs 2 3 13]
abbrev o127_2:=[xl 15 1,xo 16 (.call (.c (.clo 29 [])) [.t 15,(.c (.s [92]))] false),xm 14 16]
abbrev o127_3:=[xl 17 1,xc 18 136 [.t 17],xs 9 2 18]
abbrev o127_4:=[xl 20 1,xo 21 (.call (.c (.clo 29 [])) [.t 20,(.c (.s [108,101,116]))] false),xm 19 21]
abbrev o127_5:=[xl 22 1,xc 23 30 [.t 22]]
abbrev o127_6:=[xe 24 2 3,xo 25 (.build [(yi 0),(.s []),(yi 0),.nsl,.nsl,.nsl,.nsl,(yi 0),(yi 0)] [(0,1,(xi 6)),(7,2,(.t 24))]),xa 4 [(yi 0),(.s []),(yi 0),.nsl,.nsl,.nsl,.nsl,(yi 0),(yi 0)],xs 9 4 25]
abbrev o127_7:=[xl 26 1,xo 27 (.mkf 137 [.t 1,.t 4]),xc 28 12 [.t 26,.t 27],xm 5 28]
abbrev o127_8:=[xm 29 5,xd 30 .eql 29 0]
abbrev o127_9:=[xl 31 1,xc 32 31 [.t 31,(xi 60)]]
abbrev o127_10:=[xl 33 1,xo 34 (.call (.c (.clo 15 [])) [.t 33,(.c (.s [125]))] false)]
abbrev o127_11:=[xl 35 1,xo 36 (.call (.c (.clo 15 [])) [.t 35,(.c (.s [105,110]))] false)]
abbrev o127_12:=[xl 37 1,xc 38 107 [.t 37],xo 39 (.bsl (.st 9) [(yi 0),(.s []),(yi 0),.nsl,.nsl,.nsl,.nsl,(yi 0),(yi 0)] 1 [(0,9,(.t 38))]),xf 40 4 4,xs 1 40 39]
abbrev o127_13:=[xe 41 9 4,xs 9 2 41]
abbrev o127_14:=[xl 43 1,xo 44 (.call (.c (.clo 29 [])) [.t 43,(.c (.s [105,102]))] false),xm 42 44]
abbrev o127_15:=[xl 45 1,xc 46 30 [.t 45]]
abbrev o127_16:=[xl 47 1,xc 48 107 [.t 47],xa 6 [(yi 0),(.s []),(yi 0),.nsl,.nsl,.nsl,.nsl,(yi 0),(yi 0)],xs 9 6 48]
abbrev o127_17:=[xl 49 1,xo 50 (.call (.c (.clo 15 [])) [.t 49,(.c (.s [116,104,101,110]))] false)]
abbrev o127_18:=[xl 51 1,xc 52 107 [.t 51],xa 7 [(yi 0),(.s []),(yi 0),.nsl,.nsl,.nsl,.nsl,(yi 0),(yi 0)],xs 9 7 52]
abbrev o127_19:=[xl 53 1,xo 54 (.call (.c (.clo 15 [])) [.t 53,(.c (.s [101,108,115,101]))] false)]
abbrev o127_20:=[xe 55 9 6,xe 56 9 7,xl 57 1,xe 60 2 3,⟨some 58,(.call (.c (.clo 107 [])) [.t 57] false),none,[(55,none,(.load (.st 9) (.t 6))),(56,none,(.load (.st 9) (.t 7))),(60,none,(.load (.st 2) (.t 3)))]⟩,xo 59 (.bsl (.st 9) [(yi 0),(.s []),(yi 0),.nsl,.nsl,.nsl,.nsl,(yi 0),(yi 0)] 3 [(0,9,(.t 55)),(9,9,(.t 56)),(18,9,(.t 58))]),
 xo 61 (.build [(yi 0),(.s []),(yi 0),.nsl,.nsl,.nsl,.nsl,(yi 0),(yi 0)] [(0,1,(xi 8)),(4,1,(.t 59)),(7,2,(.t 60))]),xs 9 2 61]
abbrev o127_21:=[xl 63 1,xo 64 (.call (.c (.clo 29 [])) [.t 63,(.c (.s [99,97,115,101]))] false),xm 62 64]
abbrev o127_22:=[xl 65 1,xc 66 30 [.t 65]]
abbrev o127_23:=[xl 67 1,xe 70 2 3,xa 8 [(yi 0),(.s []),(yi 0),.nsl,.nsl,.nsl,.nsl,(yi 0),(yi 0)],⟨some 68,(.call (.c (.clo 107 [])) [.t 67] false),none,[(70,none,(.load (.st 2) (.t 3))),(8,none,(.alloc [(yi 0),(.s []),(yi 0),.nsl,.nsl,.nsl,.nsl,(yi 0),(yi 0)]))]⟩,
 xo 69 (.bsl (.st 9) [(yi 0),(.s []),(yi 0),.nsl,.nsl,.nsl,.nsl,(yi 0),(yi 0)] 1 [(0,9,(.t 68))]),xo 71 (.build [(yi 0),(.s []),(yi 0),.nsl,.nsl,.nsl,.nsl,(yi 0),(yi 0)] [(0,1,(xi 7)),(4,1,(.t 69)),(7,2,(.t 70))]),xs 9 8 71]
abbrev o127_24:=[xl 72 1,xo 73 (.call (.c (.clo 15 [])) [.t 72,(.c (.s [111,102]))] false)]
abbrev o127_25:=[xl 74 1,xo 75 (.mkf 138 [.t 8,.t 1]),xc 76 12 [.t 74,.t 75],xm 9 76]
abbrev o127_26:=[xm 77 9,xd 78 .eql 77 0]
abbrev o127_27:=[xl 79 1,xc 80 31 [.t 79,(xi 60)]]
abbrev o127_28:=[xl 81 1,xo 82 (.call (.c (.clo 15 [])) [.t 81,(.c (.s [125]))] false)]
abbrev o127_29:=[xe 83 9 8,xs 9 2 83]
abbrev o127_30:=[xl 84 1,xc 85 140 [.t 84],xa 10 [(yi 0),(.s []),(yi 0),.nsl,.nsl,.nsl,.nsl,(yi 0),(yi 0)],xs 9 10 85]
abbrev o127_31:=[xl 86 1,xc 87 141 [.t 86]]
abbrev o127_32:=[xe 88 9 10,xl 89 1,xf 92 7 10,xe 93 2 92,⟨some 90,(.call (.c (.clo 140 [])) [.t 89] false),none,[(88,none,(.load (.st 9) (.t 10))),(93,none,(.load (.st 2) (.t 92)))]⟩,xo 91 (.bsl (.st 9) [(yi 0),(.s []),(yi 0),.nsl,.nsl,.nsl,.nsl,(yi 0),(yi 0)] 2 [(0,9,(.t 88)),(9,9,(.t 90))]),
 xo 94 (.build [(yi 0),(.s []),(yi 0),.nsl,.nsl,.nsl,.nsl,(yi 0),(yi 0)] [(0,1,(xi 4)),(4,1,(.t 91)),(7,2,(.t 93))]),xs 9 10 94]
def l127_0:ACode:=(.loop (.seq (.seq (xr [1,2,10,87] o127_31) (.cond (.t 87) .skip (.exit 1))) (.block 2 (xr [1,2,10] o127_32))))
abbrev o127_33:=[xe 95 9 10,xs 9 2 95]
def a127:AFunc:=⟨(.seq (xr [1,2] o127_0) (.seq (xr [1,2,3] o127_1) (.seq (.block 0 (.seq (xr [1,2,3,14] o127_2) (.cond (.t 14) (.seq (xr [2] o127_3) .ret) (.seq (xr [1,2,3,19] o127_4) (.cond (.t 19) (.seq (xr [1,2,3] o127_5) (.seq (xr [1,2,4] o127_6) (.seq (.seq (xr [1,2,4,5] o127_7) (.seq (xr [1,2,4,30] o127_8) (.cond (.t 30) (xr [1,2,4] o127_9) .skip))) (.seq (xr [1,2,4] o127_10) (.seq (xr [1,2,4] o127_11) (.seq (xr [2,4] o127_12) (.seq (xr [2] o127_13) .ret))))))) (.seq (xr [1,2,3,42] o127_14) (.cond (.t 42) (.seq (xr [1,2,3] o127_15) (.seq (xr [1,2,3,6] o127_16) (.seq (xr [1,2,3,6] o127_17) (.seq (xr [1,2,3,6,7] o127_18) (.seq (xr [1,2,3,6,7] o127_19) (.seq (xr [2] o127_20) .ret)))))) (.seq (xr [1,2,3,62] o127_21) (.cond (.t 62) (.seq (xr [1,2,3] o127_22) (.seq (xr [1,2,8] o127_23) (.seq (xr [1,2,8] o127_24) (.seq (.seq (xr [1,2,8,9] o127_25) (.seq (xr [1,2,8,78] o127_26) (.cond (.t 78) (xr [1,2,8] o127_27) .skip))) (.seq (xr [2,8] o127_28) (.seq (xr [2] o127_29) .ret)))))) .skip))))))))) (.seq (xr [1,2,10] o127_30) (.seq (.block 1 l127_0) (.seq (xr [2] o127_33) .ret)))))),
  [(.t 2,some (.st 9))],true⟩
abbrev o128_0:=[xo 3 (.box (.t 1)),xv 4 .nsl]
abbrev o128_1:=[xv 5 .nsl]
abbrev o128_2:=[xf 11 6 3,xl 12 11,xn 13 12,xv 14 (yi 0)]
abbrev o128_3:=[xb 15 .lss 14 13]
abbrev o128_4:=[xo 16 (.iad (.st 4) (.t 12) (.t 14)),xe 17 4 16,xa 7 [(.s []),.nsl,(yi 0),(yi 0)],xs 4 7 17]
abbrev o128_5:=[xm 18 5,xm 19 0,xk 20 19,xf 21 0 20,xl 22 21,xf 23 0 7,xl 24 23,xc 25 142 [.t 22,.t 24],xo 26 (.bsl (.st 5) [(.s []),(yi 0),(yi 0),(yi 0),(yi 0)] 1 [(0,5,(.t 25))]),xo 27 (.app (.st 5) (.t 18) (.t 26) false),xm 5 27]
abbrev o128_6:=[xd 28 .add 14 1,xm 14 28]
def l128_0:ACode:=(.loop (.trn (.seq (xr [0,3,5,12,13,14,15] o128_3) (.seq (.cond (.t 15) .skip (.exit 0)) (.seq (.block 1 (.seq (xr [0,3,5,7,12,13,14] o128_4) (xr [0,3,5,12,13,14] o128_5))) (xr [0,3,5,12,13,14] o128_6))))))
abbrev o128_7:=[xm 30 5,xo 31 (.call (.c (.clo 143 [])) [.t 30] true),xm 29 31,xx 32 29 0,xx 33 29 1,xx 34 29 2,xm 8 32,xm 9 33,xm 10 34]
abbrev o128_8:=[xm 35 10,xd 36 .neq 35 0,xm 37 36,xt 37 38 (.mv (.t 0)),xt 37 39 (.nck (.t 38)),xt 37 40 (.fad 1 (.t 39)),xt 37 41 (.load .one (.t 40)),xt 37 42 (.un .not (.t 41)),xo 43 (.pick (.t 37) (.t 42) (.c (.b false)))]
abbrev o128_9:=[xm 44 0,xk 45 44,xf 46 1 45,⟨none,(.store 1 (.t 46) (.c (.b true)) false),none,[]⟩]
abbrev o128_10:=[xm 47 0,xm 48 10,xf 49 6 3,xl 50 49,xm 51 9,xo 52 (.iad (.st 4) (.t 50) (.t 51)),xf 53 2 52,xe 54 2 53,xo 55 (.build [(yi 0),(yi 0),(yi 0)] [(0,1,(.t 48)),(1,2,(.t 54))]),xk 56 47,xf 57 2 56,xs 3 57 55]
abbrev o128_11:=[xm 58 8,xm 4 58]
def a128:AFunc:=⟨(.seq (xr [0,3] o128_0) (.seq (xr [0,3,5] o128_1) (.seq (.seq (xr [0,3,5,12,13,14] o128_2) (.block 0 l128_0)) (.seq (xr [0,3,8,9,10] o128_7) (.seq (.seq (xr [0,3,8,9,10,43] o128_8) (.cond (.t 43) (.seq (xr [0,3,8,9,10] o128_9) (xr [8] o128_10)) .skip)) (.seq (xr [4] o128_11) .ret)))))),
  [(.t 4,none)],true⟩
abbrev o129_0:=[xa 8 [(yi 0),(.s []),(yi 0),.nsl,.nsl,.nsl,.nsl,(yi 0),(yi 0)]]
abbrev o129_1:=[xm 13 0,xm 9 13]
abbrev o129_2:=[xm 14 9,xm 15 1,xb 16 .lss 14 15]
abbrev o129_3:=[xl 19 2,xm 20 9,xo 21 (.iad (.st 2) (.t 19) (.t 20)),xe 22 2 21,xm 23 0,xm 24 1,xo 25 (.build [(yi 0),(yi 0)] [(0,1,(.t 23)),(1,1,(.t 24))]),xo 26 (.eqs 2 false (.t 22) (.t 25))]
abbrev o129_4:=[xf 27 6 3,xl 28 27,xm 29 9,xo 30 (.iad (.st 4) (.t 28) (.t 29)),xe 31 4 30,xa 10 [(.s []),.nsl,(yi 0),(yi 0)],xs 4 10 31]
abbrev o129_5:=[xf 32 0 10,xl 33 32,xf 34 2 10,xe 35 2 34,xo 36 (.build [(yi 0),(.s []),(yi 0),.nsl,.nsl,.nsl,.nsl,(yi 0),(yi 0)] [(0,1,(xi 1)),(1,1,(.t 33)),(7,2,(.t 35))]),xa 11 [(yi 0),(.s []),(yi 0),.nsl,.nsl,.nsl,.nsl,(yi 0),(yi 0)],xs 9 11 36]
abbrev o129_6:=[xe 37 9 11,xl 38 4,xm 39 0,xm 40 9,xf 43 2 10,xe 44 2 43,xa 12 [(yi 0),(.s []),(yi 0),.nsl,.nsl,.nsl,.nsl,(yi 0),(yi 0)],⟨some 41,(.call (.t 38) [.t 39,.t 40] false),none,[(37,none,(.load (.st 9) (.t 11))),(44,none,(.load (.st 2) (.t 43))),(12,none,(.alloc [(yi 0),(.s []),(yi 0),.nsl,.nsl,.nsl,.nsl,(yi 0),(yi 0)]))]⟩,
 xo 42 (.bsl (.st 9) [(yi 0),(.s []),(yi 0),.nsl,.nsl,.nsl,.nsl,(yi 0),(yi 0)] 2 [(0,9,(.t 37)),(9,9,(.t 41))]),xo 45 (.build [(yi 0),(.s []),(yi 0),.nsl,.nsl,.nsl,.nsl,(yi 0),(yi 0)] [(0,1,(xi 4)),(4,1,(.t 42)),(7,2,(.t 44))]),xs 9 12 45]
abbrev o129_7:=[xe 46 9 12,xl 47 4,xm 48 9,xd 49 .add 48 1,xm 50 1,xf 53 2 10,xe 54 2 53,⟨some 51,(.call (.t 47) [.t 49,.t 50] false),none,[(46,none,(.load (.st 9) (.t 12))),(54,none,(.load (.st 2) (.t 53)))]⟩,xo 52 (.bsl (.st 9) [(yi 0),(.s []),(yi 0),.nsl,.nsl,.nsl,.nsl,(yi 0),(yi 0)] 2 [(0,9,(.t 46)),(9,9,(.t 51))]),
 xo 55 (.build [(yi 0),(.s []),(yi 0),.nsl,.nsl,.nsl,.nsl,(yi 0),(yi 0)] [(0,1,(xi 4)),(4,1,(.t 52)),(7,2,(.t 54))]),xs 9 8 55]
abbrev o129_8:=[xm 17 9,xd 18 .add 17 1,xm 9 18]
def l129_0:ACode:=(.loop (.trn (.seq (.seq (xr [0,1,2,3,4,5,8,9,16] o129_2) (.cond (.t 16) .skip (.exit 0))) (.seq (.block 1 (.seq (xr [0,1,2,3,4,5,8,9,26] o129_3) (.cond (.t 26) (.seq (xr [0,1,4,8,9,10] o129_4) (.seq (xr [0,1,4,8,9,10,11] o129_5) (.seq (xr [1,4,8,9,10,12] o129_6) (.seq (xr [8] o129_7) .ret)))) .skip))) (xr [0,1,2,3,4,5,8,9] o129_8)))))
abbrev o129_9:=[xl 56 5,xm 57 0,xo 58 (.iad (.st 9) (.t 56) (.t 57)),xe 59 9 58,xs 9 8 59]
def a129:AFunc:=⟨(.seq (xr [0,1,2,3,4,5,8] o129_0) (.seq (.seq (xr [0,1,2,3,4,5,8,9] o129_1) (.block 0 l129_0)) (.seq (xr [8] o129_9) .ret))),
  [(.t 8,some (.st 9))],true⟩
abbrev o130_0:=[xv 4 (.b false)]
abbrev o130_1:=[xm 7 0,xn 8 7,xv 9 (yi 0)]
abbrev o130_2:=[xb 10 .lss 9 8]
abbrev o130_3:=[xo 11 (.iad (.st 9) (.t 7) (.t 9)),xe 12 9 11,xa 6 [(yi 0),(.s []),(yi 0),.nsl,.nsl,.nsl,.nsl,(yi 0),(yi 0)],xs 9 6 12]
abbrev o130_4:=[xm 13 1,xe 14 9 6,xo 15 (.call (.t 13) [.t 14] false),xo 16 (.un .not (.t 15))]
abbrev o130_5:=[xv 4 (.b false)]
abbrev o130_6:=[xd 17 .add 9 1,xm 9 17]
def l130_0:ACode:=(.loop (.trn (.seq (xr [1,7,8,9,10] o130_2) (.seq (.cond (.t 10) .skip (.exit 0)) (.seq (.block 1 (.seq (xr [1,6,7,8,9] o130_3) (.seq (xr [1,7,8,9,16] o130_4) (.cond (.t 16) (.seq (xr [4] o130_5) .ret) .skip)))) (xr [1,7,8,9] o130_6))))))
abbrev o130_7:=[xv 4 (.b true)]
def a130:AFunc:=⟨(.seq (xr [0,1] o130_0) (.seq (.seq (xr [1,7,8,9] o130_1) (.block 0 l130_0)) (.seq (xr [4] o130_7) .ret))),
  [(.t 4,none)],false⟩
abbrev o131_0:=[xv 2 (.b false)]
abbrev o131_1:=[xm 3 0,xo 4 (.bin .eql (.t 3) (.c (.s [95]))),xm 5 4,xu 5 6 (.mv (.t 0)),xu 5 7 (.call (.c (.clo 68 [])) [.t 6,(xi 1)] false),xo 8 (.pick (.t 5) (.c (.b true)) (.t 7)),xm 2 8]
def a131:AFunc:=⟨(.seq (xr [0] o131_0) (.seq (xr [2] o131_1) .ret)),
  [(.t 2,none)],false⟩
abbrev o132_0:=[xv 4 (.b false)]
abbrev o132_1:=[xm 7 0,xn 8 7,xv 9 (yi 0)]
abbrev o132_2:=[xb 10 .lss 9 8]
abbrev o132_3:=[xo 11 (.iad (.st 7) (.t 7) (.t 9)),xe 12 7 11,xa 6 [(yi 0),(.s []),(yi 0),.nsl,(yi 0),(yi 0),.nsl],xs 7 6 12]
abbrev o132_4:=[xm 13 1,xe 14 7 6,xo 15 (.call (.t 13) [.t 14] false),xo 16 (.un .not (.t 15))]
abbrev o132_5:=[xv 4 (.b false)]
abbrev o132_6:=[xd 17 .add 9 1,xm 9 17]
def l132_0:ACode:=(.loop (.trn (.seq (xr [1,7,8,9,10] o132_2) (.seq (.cond (.t 10) .skip (.exit 0)) (.seq (.block 1 (.seq (xr [1,6,7,8,9] o132_3) (.seq (xr [1,7,8,9,16] o132_4) (.cond (.t 16) (.seq (xr [4] o132_5) .ret) .skip)))) (xr [1,7,8,9] o132_6))))))
abbrev o132_7:=[xv 4 (.b true)]
def a132:AFunc:=⟨(.seq (xr [0,1] o132_0) (.seq (.seq (xr [1,7,8,9] o132_1) (.block 0 l132_0)) (.seq (xr [4] o132_7) .ret))),
  [(.t 4,none)],false⟩
abbrev o133_0:=[xo 1 (.box (.t 0)),xv 2 (.b false)]
abbrev o133_1:=[xf 3 0 1,xe 4 6 3,xc 5 76 [.t 4],xm 6 5,xt 6 7 (.fad 6 (.t 1)),xt 6 8 (.load .one (.t 7)),xt 6 9 (.call (.c (.clo 77 [])) [.t 8] false),xo 10 (.pick (.t 6) (.t 9) (.c (.b false))),xm 2 10]
def a133:AFunc:=⟨(.seq (xr [1] o133_0) (.seq (xr [2] o133_1) .ret)),
  [(.t 2,none)],false⟩
abbrev o134_0:=[xa 4 [(.s []),(.s []),(yi 0),(yi 0),.nsl],xv 5 (.b false)]
abbrev o134_1:=[xm 11 0,xo 12 (.eqs 0 false (.t 11) (.c .np))]
abbrev o134_2:=[xo 13 (.build [(.s []),(.s []),(yi 0),(yi 0),.nsl] []),xs 5 4 13,xv 5 (.b false)]
abbrev o134_3:=[xm 15 0,xk 16 15,xf 17 1 16,xl 18 17,xm 19 1,xo 20 (.look (.agg [(.s []),(.s []),(yi 0),(yi 0),.nsl]) (.t 18) (.t 19) true),xm 14 20,xx 21 14 0,xx 22 14 1,xa 6 [(.s []),(.s []),(yi 0),(yi 0),.nsl],xs 5 6 21,xm 7 22]
abbrev o134_4:=[xm 23 7,xo 24 (.un .not (.t 23))]
abbrev o134_5:=[xo 25 (.build [(.s []),(.s []),(yi 0),(yi 0),.nsl] []),xs 5 4 25,xv 5 (.b false)]
abbrev o134_6:=[xv 8 .nsl]
abbrev o134_7:=[xf 26 4 6,xl 27 26,xn 28 27,xv 29 (yi 0)]
abbrev o134_8:=[xb 30 .lss 29 28]
abbrev o134_9:=[xo 31 (.iad (.st 4) (.t 27) (.t 29)),xe 32 4 31,xa 10 [(yi 0),(yi 0),(.s []),.nsl],xs 4 10 32]
abbrev o134_10:=[xm 33 8,xe 34 4 10,xc 35 144 [.t 34],xo 36 (.bsl (.st 4) [(yi 0),(yi 0),(.s []),.nsl] 1 [(0,4,(.t 35))]),xo 37 (.app (.st 4) (.t 33) (.t 36) false),xm 8 37]
abbrev o134_11:=[xd 38 .add 29 1,xm 29 38]
def l134_0:ACode:=(.loop (.trn (.seq (xr [4,6,8,27,28,29,30] o134_8) (.seq (.cond (.t 30) .skip (.exit 0)) (.seq (.block 1 (.seq (xr [4,6,8,10,27,28,29] o134_9) (xr [4,6,8,27,28,29] o134_10))) (xr [4,6,8,27,28,29] o134_11))))))
abbrev o134_12:=[xm 39 8,xf 40 4 6,xs 1 40 39]
abbrev o134_13:=[xe 41 5 6,xs 5 4 41,xv 5 (.b true)]
def a134:AFunc:=⟨(.seq (xr [0,1,4] o134_0) (.seq (.seq (xr [0,1,4,12] o134_1) (.cond (.t 12) (.seq (xr [4,5] o134_2) .ret) .skip)) (.seq (xr [4,6,7] o134_3) (.seq (.seq (xr [4,6,24] o134_4) (.cond (.t 24) (.seq (xr [4,5] o134_5) .ret) .skip)) (.seq (xr [4,6,8] o134_6) (.seq (.seq (xr [4,6,8,27,28,29] o134_7) (.block 0 l134_0)) (.seq (xr [4,6] o134_12) (.seq (xr [4,5] o134_13) .ret)))))))),
  [(.t 4,some (.st 5)),(.t 5,none)],true⟩
abbrev o135_0:=[xo 2 (.box (.t 0)),xo 3 (.box (.t 1))]
abbrev o135_1:=[xo 12 (.mkf 145 [.t 3,.t 2]),xm 4 12]
abbrev o135_2:=[xf 13 0 3,xl 14 13]
abbrev o135_3:=[xd 33 .eql 14 1,xm 32 33]
abbrev o135_4:=[xf 34 1 3,xl 35 34,xc 36 44 [.t 35],xd 37 .eql 36 0,xm 38 37,xt 38 39 (.load .one (.t 2)),xt 38 40 (.nck (.t 39)),xt 38 41 (.fad 1 (.t 40)),xt 38 42 (.load .one (.t 41)),xt 38 43 (.fad 1 (.t 3)),xt 38 44 (.load .one (.t 43)),xt 38 45 (.call (.c (.clo 20 [])) [.t 42,.t 44] false),xt 38 46 (.un .not (.t 45)),
 xo 47 (.pick (.t 38) (.t 46) (.c (.b false)))]
abbrev o135_5:=[xl 48 2,xf 49 7 3,xe 50 2 49,xc 51 21 [.t 48,(xi 81),.t 50]]
abbrev o135_6:=[xd 53 .eql 14 2,xm 52 53]
abbrev o135_7:=[xl 55 2,xk 56 55,xf 57 0 56,xl 58 57,xf 59 1 3,xl 60 59,xa 5 [(.s []),(.s []),(yi 0),(yi 0),.nsl],⟨some 61,(.call (.c (.clo 134 [])) [.t 58,.t 60] false),none,[(5,none,(.alloc [(.s []),(.s []),(yi 0),(yi 0),.nsl]))]⟩,xm 54 61,xx 62 54 0,xx 63 54 1,xs 5 5 62,xm 6 63]
abbrev o135_8:=[xm 64 6,xo 65 (.un .not (.t 64))]
abbrev o135_9:=[xl 66 2,xf 67 7 3,xe 68 2 67,xc 69 21 [.t 66,(xi 81),.t 68]]
abbrev o135_10:=[xd 71 .eql 14 5,xm 70 71]
abbrev o135_11:=[xf 72 3 3,xl 73 72,xc 74 121 [.t 73],xm 7 74]
abbrev o135_12:=[xm 75 7,xn 76 75,xv 77 (yi 0)]
abbrev o135_13:=[xb 78 .lss 77 76]
abbrev o135_14:=[xm 79 77,xq 80 75 77,xl 81 80,xm 8 79,xm 9 81]
abbrev o135_15:=[xm 82 7,xm 83 8,xo 84 (.slc false (.t 82) none (some (.t 83))),xm 85 9,xc 86 20 [.t 84,.t 85]]
abbrev o135_16:=[xl 87 2,xf 88 7 3,xe 89 2 88,xc 90 21 [.t 87,(xi 80),.t 89]]
abbrev o135_17:=[xd 91 .add 77 1,xm 77 91]
def l135_0:ACode:=(.loop (.seq (xr [2,3,4,7,75,76,77,78] o135_13) (.seq (.cond (.t 78) .skip (.exit 3)) (.seq (.block 4 (.seq (xr [2,3,4,7,8,9,75,76,77] o135_14) (.seq (xr [2,3,4,7,75,76,77,86] o135_15) (.cond (.t 86) (xr [2,3,4,7,75,76,77] o135_16) .skip)))) (xr [2,3,4,7,75,76,77] o135_17)))))
abbrev o135_18:=[xl 92 2,xm 93 7,xm 94 4,xc 95 45 [.t 92,.t 93,.t 94]]
abbrev o135_19:=[xd 97 .eql 14 6,xm 96 97]
abbrev o135_20:=[xl 98 2,xf 99 6 3,xl 100 99,xm 101 4,xc 102 22 [.t 98,.t 100,.t 101]]
abbrev o135_21:=[xm 15 4,xo 16 (.call (.t 15) [] false)]
abbrev o135_22:=[xf 17 5 3,xl 18 17,xn 19 18,xv 20 (yi 0)]
abbrev o135_23:=[xb 21 .lss 20 19]
abbrev o135_24:=[xo 22 (.iad (.st 7) (.t 18) (.t 20)),xe 23 7 22,xa 11 [(yi 0),(.s []),(yi 0),.nsl,(yi 0),(yi 0),.nsl],xs 7 11 23]
abbrev o135_25:=[xl 24 2,xf 25 0 11,xe 26 6 25,xo 27 (.bsl (.st 6) [(yi 0),(.s []),(yi 0),.nsl,(yi 0),(yi 0)] 1 [(0,6,(.t 26))]),xf 28 6 11,xl 29 28,xc 30 82 [.t 24,.t 27,.t 29]]
abbrev o135_26:=[xd 31 .add 20 1,xm 20 31]
def l135_1:ACode:=(.loop (.trn (.seq (xr [2,18,19,20,21] o135_23) (.seq (.cond (.t 21) .skip (.exit 1)) (.seq (.block 2 (.seq (xr [2,11,18,19,20] o135_24) (xr [2,18,19,20] o135_25))) (xr [2,18,19,20] o135_26))))))
def a135:AFunc:=⟨(.seq (xr [2,3] o135_0) (.seq (xr [2,3,4] o135_1) (.seq (xr [2,3,4,14] o135_2) (.block 0 (.seq (xr [2,3,4,14,32] o135_3) (.cond (.t 32) (.seq (xr [2,3,47] o135_4) (.cond (.t 47) (xr [] o135_5) .skip)) (.seq (xr [2,3,4,14,52] o135_6) (.cond (.t 52) (.seq (xr [2,3,6] o135_7) (.seq (xr [2,3,65] o135_8) (.cond (.t 65) (xr [] o135_9) .skip))) (.seq (xr [2,3,4,14,70] o135_10) (.cond (.t 70) (.seq (xr [2,3,4,7] o135_11) (.seq (.seq (xr [2,3,4,7,75,76,77] o135_12) (.block 3 l135_0)) (xr [] o135_18))) (.seq (xr [2,3,4,96] o135_19) (.cond (.t 96) (xr [] o135_20) (.seq (xr [2,3] o135_21) (.seq (xr [2,18,19,20] o135_22) (.block 1 l135_1))))))))))))))),
  [],false⟩
abbrev o136_0:=[xa 2 [(yi 0),(.s []),(yi 0),.nsl,.nsl,.nsl,.nsl,(yi 0),(yi 0)]]
abbrev o136_1:=[xm 4 0,xc 5 30 [.t 4],xo 6 (.fld 3 (.st 2) (.t 5)),xo 7 (.build [(yi 0),(.s []),(yi 0),.nsl,.nsl,.nsl,.nsl,(yi 0),(yi 0)] [(0,1,(xi 5)),(7,2,(.t 6))]),xa 3 [(yi 0),(.s []),(yi 0),.nsl,.nsl,.nsl,.nsl,(yi 0),(yi 0)],xs 9 3 7]
abbrev o136_2:=[xm 8 0,xc 9 61 [.t 8,(xi 1)],xm 10 9,xu 10 11 (.mv (.t 0)),xu 10 12 (.call (.c (.clo 29 [])) [.t 11,(.c (.s [95]))] false),xo 13 (.pick (.t 10) (.c (.b true)) (.t 12))]
abbrev o136_3:=[xf 14 3 3,xl 15 14,xm 16 0,⟨some 17,(.call (.c (.clo 30 [])) [.t 16] false),none,[(15,none,(.load .one (.t 14)))]⟩,xo 18 (.fld 1 .one (.t 17)),xo 19 (.bsl .one [(.s [])] 1 [(0,1,(.t 18))]),xo 20 (.app .one (.t 15) (.t 19) false),xf 21 3 3,xs 1 21 20]
def l136_0:ACode:=(.loop (.seq (.seq (xr [0,2,3,13] o136_2) (.cond (.t 13) .skip (.exit 0))) (.block 1 (xr [0,2,3] o136_3))))
abbrev o136_4:=[xf 22 3 3,xl 23 22,xn 24 23,xd 25 .eql 24 0]
abbrev o136_5:=[xm 26 0,xc 27 31 [.t 26,(xi 60)]]
abbrev o136_6:=[xm 28 0,xo 29 (.call (.c (.clo 15 [])) [.t 28,(.c (.s [45,62]))] false)]
abbrev o136_7:=[xm 30 0,xc 31 107 [.t 30],xo 32 (.bsl (.st 9) [(yi 0),(.s []),(yi 0),.nsl,.nsl,.nsl,.nsl,(yi 0),(yi 0)] 1 [(0,9,(.t 31))]),xf 33 4 3,xs 1 33 32]
abbrev o136_8:=[xe 34 9 3,xs 9 2 34]
def a136:AFunc:=⟨(.seq (xr [0,2] o136_0) (.seq (xr [0,2,3] o136_1) (.seq (.block 0 l136_0) (.seq (.seq (xr [0,2,3,25] o136_4) (.cond (.t 25) (xr [0,2,3] o136_5) .skip)) (.seq (xr [0,2,3] o136_6) (.seq (xr [2,3] o136_7) (.seq (xr [2] o136_8) .ret))))))),
  [(.t 2,some (.st 9))],true⟩
abbrev o137_0:=[xl 2 0,xf 3 6 1,xl 4 3,xc 5 34 [.t 2,.t 4],xf 6 6 1,xs 1 6 5]
def a137:AFunc:=⟨(xr [] o137_0),
  [],false⟩
abbrev o138_0:=[xf 2 5 0,xl 3 2,xl 4 1,⟨some 5,(.call (.c (.clo 139 [])) [.t 4] false),none,[(3,none,(.load .one (.t 2)))]⟩,xo 6 (.bsl (.st 7) [(yi 0),(.s []),(yi 0),.nsl,(yi 0),(yi 0),.nsl] 1 [(0,7,(.t 5))]),xo 7 (.app (.st 7) (.t 3) (.t 6) false),xf 8 5 0,xs 1 8 7]
def a138:AFunc:=⟨(xr [] o138_0),
  [],false⟩
abbrev o139_0:=[xa 2 [(yi 0),(.s []),(yi 0),.nsl,(yi 0),(yi 0),.nsl]]
abbrev o139_1:=[xm 4 0,xc 5 106 [.t 4],xo 6 (.build [(yi 0),(.s []),(yi 0),.nsl,(yi 0),(yi 0),.nsl] [(0,6,(.t 5))]),xa 3 [(yi 0),(.s []),(yi 0),.nsl,(yi 0),(yi 0),.nsl],xs 7 3 6]
abbrev o139_2:=[xm 7 0,xo 8 (.call (.c (.clo 65 [])) [.t 7,(.c (.s [45,62]))] false),xf 9 6 3,xs 1 9 8]
abbrev o139_3:=[xe 10 7 3,xs 7 2 10]
def a139:AFunc:=⟨(.seq (xr [0,2] o139_0) (.seq (xr [0,2,3] o139_1) (.seq (xr [2,3] o139_2) (.seq (xr [2] o139_3) .ret)))),
  [(.t 2,some (.st 7))],true⟩
abbrev o140_0:=[xa 2 [(yi 0),(.s []),(yi 0),.nsl,.nsl,.nsl,.nsl,(yi 0),(yi 0)]]
abbrev o140_1:=[xm 10 0,xc 11 59 [.t 10],xa 3 [(yi 0),(.s []),(yi 0),(yi 0),(yi 0),(.b false)],xs 6 3 11]
abbrev o140_2:=[xf 13 0 3,xl 14 13,xd 15 .eql 14 1,xm 12 15]
abbrev o140_3:=[xm 16 0,xc 17 30 [.t 16]]
abbrev o140_4:=[xf 18 1 3,xl 19 18,xf 20 3 3,xe 21 2 20,xo 22 (.build [(yi 0),(.s []),(yi 0),.nsl,.nsl,.nsl,.nsl,(yi 0),(yi 0)] [(0,1,(xi 1)),(1,1,(.t 19)),(7,2,(.t 21))]),xs 9 2 22]
abbrev o140_5:=[xf 24 0 3,xl 25 24,xd 26 .eql 25 2,xm 23 26]
abbrev o140_6:=[xm 27 0,xc 28 30 [.t 27]]
abbrev o140_7:=[xf 29 1 3,xl 30 29,xf 31 3 3,xe 32 2 31,xo 33 (.build [(yi 0),(.s []),(yi 0),.nsl,.nsl,.nsl,.nsl,(yi 0),(yi 0)] [(0,1,(xi 2)),(1,1,(.t 30)),(7,2,(.t 32))]),xs 9 2 33]
abbrev o140_8:=[xf 35 0 3,xl 36 35,xd 37 .eql 36 4,xm 34 37]
abbrev o140_9:=[xm 39 0,xc 40 102 [.t 39],xm 38 40,xx 41 38 0,xx 42 38 1,xa 5 [(yi 0),(yi 0)],xm 4 41,xs 2 5 42]
abbrev o140_10:=[xm 43 4,xe 44 2 5,xo 45 (.build [(yi 0),(.s []),(yi 0),.nsl,.nsl,.nsl,.nsl,(yi 0),(yi 0)] [(0,1,(xi 3)),(2,1,(.t 43)),(7,2,(.t 44))]),xs 9 2 45]
abbrev o140_11:=[xm 47 0,xo 48 (.call (.c (.clo 103 [])) [.t 47,(.c (.s [45])),(xi 4)] false),xm 46 48]
abbrev o140_12:=[xm 50 0,xc 51 104 [.t 50],xm 49 51,xx 52 49 0,xx 53 49 1,xa 7 [(yi 0),(yi 0)],xm 6 52,xs 2 7 53]
abbrev o140_13:=[xm 54 6,xe 55 2 7,xo 56 (.build [(yi 0),(.s []),(yi 0),.nsl,.nsl,.nsl,.nsl,(yi 0),(yi 0)] [(0,1,(xi 3)),(2,1,(.t 54)),(7,2,(.t 55))]),xs 9 2 56]
abbrev o140_14:=[xm 58 0,xc 59 146 [.t 58],xm 57 59]
abbrev o140_15:=[xm 60 0,xc 61 30 [.t 60]]
abbrev o140_16:=[xm 62 0,xc 63 30 [.t 62],xa 8 [(yi 0),(.s []),(yi 0),(yi 0),(yi 0),(.b false)],xs 6 8 63]
abbrev o140_17:=[xm 64 0,xo 65 (.call (.c (.clo 15 [])) [.t 64,(.c (.s [41]))] false)]
abbrev o140_18:=[xf 66 1 8,xl 67 66,xf 68 3 8,xe 69 2 68,xo 70 (.build [(yi 0),(.s []),(yi 0),.nsl,.nsl,.nsl,.nsl,(yi 0),(yi 0)] [(0,1,(xi 1)),(1,1,(.t 67)),(7,2,(.t 69))]),xs 9 2 70]
abbrev o140_19:=[xm 71 0,xo 72 (.call (.c (.clo 15 [])) [.t 71,(.c (.s [40]))] false)]
abbrev o140_20:=[xm 73 0,xk 74 73,xf 75 2 74,xl 76 75]
abbrev o140_21:=[xo 77 (.build [(yi 0),(.s []),(yi 0),.nsl,.nsl,.nsl,.nsl,(yi 0),(yi 0)] []),xs 9 2 77]
abbrev o140_22:=[xm 78 0,xc 79 107 [.t 78],xa 9 [(yi 0),(.s []),(yi 0),.nsl,.nsl,.nsl,.nsl,(yi 0),(yi 0)],xs 9 9 79]
abbrev o140_23:=[xm 80 0,xo 81 (.call (.c (.clo 15 [])) [.t 80,(.c (.s [41]))] false)]
abbrev o140_24:=[xe 82 9 9,xs 9 2 82]
def a140:AFunc:=⟨(.seq (xr [0,2] o140_0) (.seq (xr [0,2,3] o140_1) (.seq (.block 0 (.seq (xr [0,2,3,12] o140_2) (.cond (.t 12) (.seq (xr [2,3] o140_3) (.seq (xr [2] o140_4) .ret)) (.seq (xr [0,2,3,23] o140_5) (.cond (.t 23) (.seq (xr [2,3] o140_6) (.seq (xr [2] o140_7) .ret)) (.seq (xr [0,2,34] o140_8) (.cond (.t 34) (.seq (xr [2,4,5] o140_9) (.seq (xr [2] o140_10) .ret)) (.seq (xr [0,2,46] o140_11) (.cond (.t 46) (.seq (xr [2,6,7] o140_12) (.seq (xr [2] o140_13) .ret)) (.seq (xr [0,2,57] o140_14) (.cond (.t 57) (.seq (xr [0,2] o140_15) (.seq (xr [0,2,8] o140_16) (.seq (xr [2,8] o140_17) (.seq (xr [2] o140_18) .ret)))) .skip))))))))))) (.seq (xr [0,2] o140_19) (.seq (.seq (xr [0,2,76] o140_20) (.cond (.t 76) (.seq (xr [2] o140_21) .ret) .skip)) (.seq (xr [0,2,9] o140_22) (.seq (xr [2,9] o140_23) (.seq (xr [2] o140_24) .ret)))))))),
  [(.t 2,some (.st 9))],true⟩
abbrev o141_0:=[xv 2 (.b false)]
abbrev o141_1:=[xm 3 0,xc 4 61 [.t 3,(xi 1)],xm 5 4,xu 5 6 (.mv (.t 0)),xu 5 7 (.call (.c (.clo 61 [])) [.t 6,(xi 2)] false),xo 8 (.pick (.t 5) (.c (.b true)) (.t 7)),xm 9 8,xu 9 10 (.mv (.t 0)),xu 9 11 (.call (.c (.clo 61 [])) [.t 10,(xi 4)] false),xo 12 (.pick (.t 9) (.c (.b true)) (.t 11)),xm 13 12,xu 13 14 (.mv (.t 0)),
 xu 13 15 (.call (.c (.clo 29 [])) [.t 14,(.c (.s [40]))] false),xo 16 (.pick (.t 13) (.c (.b true)) (.t 15)),xm 2 16]
def a141:AFunc:=⟨(.seq (xr [0] o141_0) (.seq (xr [2] o141_1) .ret)),
  [(.t 2,none)],false⟩
abbrev o142_0:=[xa 4 [(.s []),(yi 0),(yi 0),(yi 0),(yi 0)]]
abbrev o142_1:=[xm 7 0,xn 8 7,xv 9 (yi 0)]
abbrev o142_2:=[xb 10 .lss 9 8]
abbrev o142_3:=[xo 11 (.iad (.st 5) (.t 7) (.t 9)),xe 12 5 11,xa 6 [(.s []),(yi 0),(yi 0),(yi 0),(yi 0)],xs 5 6 12]
abbrev o142_4:=[xf 13 0 6,xl 14 13,xm 15 1,xb 16 .eql 14 15]
abbrev o142_5:=[xe 17 5 6,xs 5 4 17]
abbrev o142_6:=[xd 18 .add 9 1,xm 9 18]
def l142_0:ACode:=(.loop (.trn (.seq (xr [1,4,7,8,9,10] o142_2) (.seq (.cond (.t 10) .skip (.exit 0)) (.seq (.block 1 (.seq (xr [1,4,6,7,8,9] o142_3) (.seq (xr [1,4,6,7,8,9,16] o142_4) (.cond (.t 16) (.seq (xr [4] o142_5) .ret) .skip)))) (xr [1,4,7,8,9] o142_6))))))
abbrev o142_7:=[xm 19 1,xc 20 147 [.t 19],xs 5 4 20]
def a142:AFunc:=⟨(.seq (xr [0,1,4] o142_0) (.seq (.seq (xr [1,4,7,8,9] o142_1) (.block 0 l142_0)) (.seq (xr [4] o142_7) .ret))),
  [(.t 4,some (.st 5))],false⟩
abbrev o143_0:=[xv 2 .nsl,xv 3 (yi 0),xv 4 (yi 0)]
abbrev o143_1:=[xm 9 0,xn 10 9,xd 11 .gtr 10 1024]
abbrev o143_2:=[xv 2 .nsl,xv 3 (yi 0),xv 4 (yi 2)]
abbrev o143_3:=[xm 12 0,xn 13 12,xv 14 (yi 0)]
abbrev o143_4:=[xb 15 .lss 14 13]
abbrev o143_5:=[xm 16 14,xo 17 (.iad (.st 5) (.t 12) (.t 14)),xe 18 5 17,xa 6 [(.s []),(yi 0),(yi 0),(yi 0),(yi 0)],xm 5 16,xs 5 6 18]
abbrev o143_6:=[xe 19 5 6,xc 20 148 [.t 19],xo 21 (.un .not (.t 20))]
abbrev o143_7:=[xm 22 5,xv 2 .nsl,xm 3 22,xv 4 (yi 1)]
abbrev o143_8:=[xd 23 .add 14 1,xm 14 23]
def l143_0:ACode:=(.loop (.trn (.seq (xr [0,12,13,14,15] o143_4) (.seq (.cond (.t 15) .skip (.exit 0)) (.seq (.block 1 (.seq (xr [0,5,6,12,13,14] o143_5) (.seq (xr [0,5,12,13,14,21] o143_6) (.cond (.t 21) (.seq (xr [2,3,4] o143_7) .ret) .skip)))) (xr [0,12,13,14] o143_8))))))
abbrev o143_9:=[xm 24 0,xo 25 (.build [(yi 0),(yi 0)] []),xo 26 (.bsl (.st 2) [(yi 0),(yi 0)] 1 [(0,2,(.t 25))]),xm 27 0,xn 28 27,xo 29 (.msl (.st 2) [(yi 0),(yi 0)] (.t 28) (.t 28)),xo 30 (.build [.nsl,.nsl,.nsl,.nsl] [(0,1,(.t 24)),(2,1,(.t 26)),(3,1,(.t 29))]),xo 31 (.box (.t 30)),xm 7 31]
abbrev o143_10:=[xm 32 0,xn 33 32,xv 34 (yi 0)]
abbrev o143_11:=[xb 35 .lss 34 33]
abbrev o143_12:=[xm 36 34,xm 8 36]
abbrev o143_13:=[xm 37 7,xm 38 8,xc 39 149 [.t 37,.t 38],xo 40 (.un .not (.t 39))]
abbrev o143_14:=[xm 41 8,xv 2 .nsl,xm 3 41,xv 4 (yi 50)]
abbrev o143_15:=[xd 42 .add 34 1,xm 34 42]
def l143_1:ACode:=(.loop (.seq (xr [7,33,34,35] o143_11) (.seq (.cond (.t 35) .skip (.exit 2)) (.seq (.block 3 (.seq (xr [7,8,33,34] o143_12) (.seq (xr [7,8,33,34,40] o143_13) (.cond (.t 40) (.seq (xr [2,3,4] o143_14) .ret) .skip)))) (xr [7,33,34] o143_15)))))
abbrev o143_16:=[xm 43 7,xk 44 43,xf 45 1 44,xl 46 45,xn 47 46,xd 48 .gtr 47 0]
abbrev o143_17:=[xm 49 7,xc 50 150 [.t 49]]
def l143_2:ACode:=(.loop (.seq (.seq (xr [7,48] o143_16) (.cond (.t 48) .skip (.exit 4))) (.block 5 (xr [7] o143_17))))
abbrev o143_18:=[xm 51 7,xk 52 51,xf 53 3 52,xl 54 53,xm 2 54,xv 3 (yi 0),xv 4 (yi 0)]
def a143:AFunc:=⟨(.seq (xr [0] o143_0) (.seq (.seq (xr [0,11] o143_1) (.cond (.t 11) (.seq (xr [2,3,4] o143_2) .ret) .skip)) (.seq (.seq (xr [0,12,13,14] o143_3) (.block 0 l143_0)) (.seq (xr [0,7] o143_9) (.seq (.seq (xr [7,33,34] o143_10) (.block 2 l143_1)) (.seq (.block 4 l143_2) (.seq (xr [2,3,4] o143_18) .ret))))))),
  [(.t 2,none),(.t 3,none),(.t 4,none)],true⟩
abbrev o144_0:=[xo 1 (.box (.t 0)),xa 2 [(yi 0),(yi 0),(.s []),.nsl]]
abbrev o144_1:=[xv 3 .nsl]
abbrev o144_2:=[xf 6 3 1,xl 7 6,xn 8 7,xv 9 (yi 0)]
abbrev o144_3:=[xb 10 .lss 9 8]
abbrev o144_4:=[xo 11 (.iad (.st 4) (.t 7) (.t 9)),xe 12 4 11,xa 5 [(yi 0),(yi 0),(.s []),.nsl],xs 4 5 12]
abbrev o144_5:=[xm 13 3,xe 14 4 5,xc 15 144 [.t 14],xo 16 (.bsl (.st 4) [(yi 0),(yi 0),(.s []),.nsl] 1 [(0,4,(.t 15))]),xo 17 (.app (.st 4) (.t 13) (.t 16) false),xm 3 17]
abbrev o144_6:=[xd 18 .add 9 1,xm 9 18]
def l144_0:ACode:=(.loop (.trn (.seq (xr [1,2,3,7,8,9,10] o144_3) (.seq (.cond (.t 10) .skip (.exit 0)) (.seq (.block 1 (.seq (xr [1,2,3,5,7,8,9] o144_4) (xr [1,2,3,7,8,9] o144_5))) (xr [1,2,3,7,8,9] o144_6))))))
abbrev o144_7:=[xm 19 3,xf 20 3 1,xs 1 20 19]
abbrev o144_8:=[xe 21 4 1,xs 4 2 21]
def a144:AFunc:=⟨(.seq (xr [1,2] o144_0) (.seq (xr [1,2,3] o144_1) (.seq (.seq (xr [1,2,3,7,8,9] o144_2) (.block 0 l144_0)) (.seq (xr [1,2] o144_7) (.seq (xr [2] o144_8) .ret))))),
  [(.t 2,some (.st 4))],true⟩
abbrev o145_0:=[xf 4 4 0,xl 5 4,xn 6 5,xv 7 (yi 0)]
abbrev o145_1:=[xb 8 .lss 7 6]
abbrev o145_2:=[xo 9 (.iad (.st 9) (.t 5) (.t 7)),xe 10 9 9,xa 3 [(yi 0),(.s []),(yi 0),.nsl,.nsl,.nsl,.nsl,(yi 0),(yi 0)],xs 9 3 10]
abbrev o145_3:=[xl 11 1,xe 12 9 3,xc 13 135 [.t 11,.t 12]]
abbrev o145_4:=[xd 14 .add 7 1,xm 7 14]
def l145_0:ACode:=(.loop (.trn (.seq (xr [1,5,6,7,8] o145_1) (.seq (.cond (.t 8) .skip (.exit 0)) (.seq (.block 1 (.seq (xr [1,3,5,6,7] o145_2) (xr [1,5,6,7] o145_3))) (xr [1,5,6,7] o145_4))))))
def a145:AFunc:=⟨(.seq (xr [1,5,6,7] o145_0) (.block 0 l145_0)),
  [],false⟩
abbrev o146_0:=[xv 2 (.b false)]
abbrev o146_1:=[xm 3 0,xo 4 (.call (.c (.clo 29 [])) [.t 3,(.c (.s [40]))] false),xm 5 4,xt 5 6 (.mv (.t 0)),xt 5 7 (.nck (.t 6)),xt 5 8 (.fad 1 (.t 7)),xt 5 9 (.load .one (.t 8)),xt 5 10 (.bin .add (.t 9) (xi 1)),xt 5 11 (.mv (.t 0)),xt 5 12 (.nck (.t 11)),xt 5 13 (.fad 0 (.t 12)),xt 5 14 (.load .one (.t 13)),xt 5 15 (.len false (.t 14)),
 xt 5 16 (.bin .lss (.t 10) (.t 15)),xo 17 (.pick (.t 5) (.t 16) (.c (.b false))),xm 18 17,xt 18 19 (.mv (.t 0)),xt 18 20 (.nck (.t 19)),xt 18 21 (.fad 0 (.t 20)),xt 18 22 (.load .one (.t 21)),xt 18 23 (.mv (.t 0)),xt 18 24 (.nck (.t 23)),xt 18 25 (.fad 1 (.t 24)),xt 18 26 (.load .one (.t 25)),xt 18 27 (.bin .add (.t 26) (xi 1)),xt 18 28 (.iad (.st 6) (.t 22) (.t 27)),
 xt 18 29 (.fad 0 (.t 28)),xt 18 30 (.load .one (.t 29)),xt 18 31 (.bin .eql (.t 30) (xi 3)),xo 32 (.pick (.t 18) (.t 31) (.c (.b false))),xm 2 32]
def a146:AFunc:=⟨(.seq (xr [0] o146_0) (.seq (xr [2] o146_1) .ret)),
  [(.t 2,none)],false⟩
abbrev o147_0:=[xa 2 [(.s []),(yi 0),(yi 0),(yi 0),(yi 0)]]
abbrev o147_1:=[xm 5 0,xo 6 (.build [(.s []),(yi 0),(yi 0),(yi 0),(yi 0)] [(0,1,(.t 5)),(1,1,(xi 1)),(2,1,(xi 9))]),xa 3 [(.s []),(yi 0),(yi 0),(yi 0),(yi 0)],xs 5 3 6]
abbrev o147_2:=[xm 7 0,xc 8 44 [.t 7],xm 4 8]
abbrev o147_3:=[xm 10 4,xc 11 151 [.t 10],xm 9 11]
abbrev o147_4:=[xf 12 1 3,⟨none,(.store 1 (.t 12) (xi 0) false),none,[]⟩,xf 13 2 3,⟨none,(.store 1 (.t 13) (xi 4) false),none,[]⟩]
abbrev o147_5:=[xm 15 0,xo 16 (.bin .eql (.t 15) (.c (.s [43]))),xm 17 16,xu 17 18 (.mv (.t 0)),xu 17 19 (.bin .eql (.t 18) (.c (.s [45]))),xo 20 (.pick (.t 17) (.c (.b true)) (.t 19)),xm 14 20]
abbrev o147_6:=[xf 21 2 3,⟨none,(.store 1 (.t 21) (xi 6) false),none,[]⟩]
abbrev o147_7:=[xm 23 4,xd 24 .gtr 23 0,xm 22 24]
abbrev o147_8:=[xf 25 2 3,⟨none,(.store 1 (.t 25) (xi 7) false),none,[]⟩]
abbrev o147_9:=[xe 26 5 3,xs 5 2 26]
def a147:AFunc:=⟨(.seq (xr [0,2] o147_0) (.seq (xr [0,2,3] o147_1) (.seq (.seq (xr [0,2,3,4] o147_2) (.block 0 (.seq (xr [0,2,3,4,9] o147_3) (.cond (.t 9) (xr [2,3] o147_4) (.seq (xr [2,3,4,14] o147_5) (.cond (.t 14) (xr [2,3] o147_6) (.seq (xr [2,3,22] o147_7) (.cond (.t 22) (xr [2,3] o147_8) .skip)))))))) (.seq (xr [2] o147_9) .ret)))),
  [(.t 2,some (.st 5))],false⟩
abbrev o148_0:=[xo 1 (.box (.t 0)),xv 2 (.b false)]
abbrev o148_1:=[xf 3 1 1,xl 4 3,xd 5 .geq 4 0,xm 6 5,xt 6 7 (.fad 1 (.t 1)),xt 6 8 (.load .one (.t 7)),xt 6 9 (.bin .leq (.t 8) (xi 2)),xo 10 (.pick (.t 6) (.t 9) (.c (.b false))),xm 11 10,xt 11 12 (.fad 2 (.t 1)),xt 11 13 (.load .one (.t 12)),xt 11 14 (.bin .geq (.t 13) (xi 0)),xo 15 (.pick (.t 11) (.t 14) (.c (.b false))),xm 16 15,xt 16 17 (.fad 2 (.t 1)),
 xt 16 18 (.load .one (.t 17)),xt 16 19 (.bin .leq (.t 18) (xi 9)),xo 20 (.pick (.t 16) (.t 19) (.c (.b false))),xm 2 20]
def a148:AFunc:=⟨(.seq (xr [1] o148_0) (.seq (xr [2] o148_1) .ret)),
  [(.t 2,none)],false⟩
abbrev o149_0:=[xv 4 (.b false)]
abbrev o149_1:=[xm 7 0,xk 8 7,xf 9 0 8,xl 10 9,xm 11 1,xo 12 (.iad (.st 5) (.t 10) (.t 11)),xe 13 5 12,xa 5 [(.s []),(yi 0),(yi 0),(yi 0),(yi 0)],xs 5 5 13]
abbrev o149_2:=[xm 14 0,xk 15 14,xf 16 1 15,xl 17 16,xn 18 17,xd 19 .gtr 18 0]
abbrev o149_3:=[xm 20 0,xk 21 20,xf 22 0 21,xl 23 22,xm 24 0,xk 25 24,xf 26 1 25,xl 27 26,xm 28 0,xk 29 28,xf 30 1 29,xl 31 30,xn 32 31,xd 33 .sub 32 1,xq 34 27 33,xl 35 34,xo 36 (.iad (.st 5) (.t 23) (.t 35)),xe 37 5 36,xa 6 [(.s []),(yi 0),(yi 0),(yi 0),(yi 0)],xs 5 6 37]
abbrev o149_4:=[xf 39 2 6,xl 40 39,xf 41 2 5,xl 42 41,xb 43 .gtr 40 42,xm 38 43]
abbrev o149_5:=[xm 44 0,xc 45 150 [.t 44]]
abbrev o149_6:=[xf 47 2 6,xl 48 47,xf 49 2 5,xl 50 49,xb 51 .lss 48 50,xm 46 51]
abbrev o149_7:=[xf 53 1 6,xl 54 53,xd 55 .eql 54 1,xm 56 55,xt 56 57 (.fad 1 (.t 5)),xt 56 58 (.load .one (.t 57)),xt 56 59 (.bin .eql (.t 58) (xi 1)),xo 60 (.pick (.t 56) (.t 59) (.c (.b false))),xm 52 60]
abbrev o149_8:=[xm 61 0,xc 62 150 [.t 61]]
abbrev o149_9:=[xf 64 1 6,xl 65 64,xd 66 .eql 65 2,xm 67 66,xt 67 68 (.fad 1 (.t 5)),xt 67 69 (.load .one (.t 68)),xt 67 70 (.bin .eql (.t 69) (xi 2)),xo 71 (.pick (.t 67) (.t 70) (.c (.b false))),xm 63 71]
abbrev o149_10:=[xv 4 (.b false)]
def l149_0:ACode:=(.loop (.trn (.seq (.seq (xr [0,1,5,19] o149_2) (.cond (.t 19) .skip (.exit 0))) (.block 1 (.seq (xr [0,1,5,6] o149_3) (.block 2 (.seq (xr [0,1,5,6,38] o149_4) (.cond (.t 38) (xr [0,1,5] o149_5) (.seq (xr [0,1,5,6,46] o149_6) (.cond (.t 46) (.exit 0) (.seq (xr [0,1,5,6,52] o149_7) (.cond (.t 52) (xr [0,1,5] o149_8) (.seq (xr [0,1,63] o149_9) (.cond (.t 63) (.exit 0) (.seq (xr [4] o149_10) .ret)))))))))))))))
abbrev o149_11:=[xm 72 0,xm 73 0,xk 74 73,xf 75 1 74,xl 76 75,xm 77 1,xo 78 (.bsl .one [(yi 0)] 1 [(0,1,(.t 77))]),xo 79 (.app .one (.t 76) (.t 78) false),xk 80 72,xf 81 1 80,xs 1 81 79]
abbrev o149_12:=[xm 82 0,xm 83 0,xk 84 83,xf 85 2 84,xl 86 85,xm 87 1,xd 88 .add 87 1,xm 89 1,xd 90 .add 89 1,xo 91 (.build [(yi 0),(yi 0)] [(0,1,(.t 88)),(1,1,(.t 90))]),xo 92 (.bsl (.st 2) [(yi 0),(yi 0)] 1 [(0,2,(.t 91))]),xo 93 (.app (.st 2) (.t 86) (.t 92) false),xk 94 82,xf 95 2 94,xs 1 95 93]
abbrev o149_13:=[xv 4 (.b true)]
def a149:AFunc:=⟨(.seq (xr [0,1] o149_0) (.seq (xr [0,1,5] o149_1) (.seq .skip (.seq (.block 0 l149_0) (.seq (xr [0,1] o149_11) (.seq (xr [] o149_12) (.seq (xr [4] o149_13) .ret))))))),
  [(.t 4,none)],false⟩
abbrev o150_0:=[xm 5 0,xk 6 5,xf 7 1 6,xl 8 7,xm 9 0,xk 10 9,xf 11 1 10,xl 12 11,xn 13 12,xd 14 .sub 13 1,xq 15 8 14,xl 16 15,xm 2 16]
abbrev o150_1:=[xm 17 0,xm 18 0,xk 19 18,xf 20 1 19,xl 21 20,xm 22 0,xk 23 22,xf 24 1 23,xl 25 24,xn 26 25,xd 27 .sub 26 1,xo 28 (.slc false (.t 21) none (some (.t 27))),xk 29 17,xf 30 1 29,xs 1 30 28]
abbrev o150_2:=[xm 31 0,xk 32 31,xf 33 2 32,xl 34 33,xn 35 34,xm 3 35]
abbrev o150_3:=[xm 36 0,xk 37 36,xf 38 2 37,xl 39 38,xm 40 3,xd 41 .sub 40 2,xo 42 (.iad (.st 2) (.t 39) (.t 41)),xf 43 0 42,xl 44 43,xm 45 0,xk 46 45,xf 47 2 46,xl 48 47,xm 49 3,xd 50 .sub 49 1,xo 51 (.iad (.st 2) (.t 48) (.t 50)),xf 52 1 51,xl 53 52,xo 54 (.build [(yi 0),(yi 0)] [(0,1,(.t 44)),(1,1,(.t 53))]),xa 4 [(yi 0),(yi 0)],xs 2 4 54]
abbrev o150_4:=[xm 55 0,xm 56 0,xk 57 56,xf 58 2 57,xl 59 58,xm 60 3,xd 61 .sub 60 2,xo 62 (.slc false (.t 59) none (some (.t 61))),xe 63 2 4,xo 64 (.bsl (.st 2) [(yi 0),(yi 0)] 1 [(0,2,(.t 63))]),xo 65 (.app (.st 2) (.t 62) (.t 64) false),xk 66 55,xf 67 2 66,xs 1 67 65]
abbrev o150_5:=[xm 68 0,xk 69 68,xf 70 3 69,xl 71 70,xm 72 2,xe 73 2 4,xo 74 (.iad (.st 2) (.t 71) (.t 72)),xs 2 74 73]
def a150:AFunc:=⟨(.seq (xr [0,2] o150_0) (.seq (xr [0,2] o150_1) (.seq (xr [0,2,3] o150_2) (.seq (xr [0,2,3,4] o150_3) (.seq (xr [0,2,4] o150_4) (xr [] o150_5)))))),
  [],false⟩
abbrev o151_0:=[xv 2 (.b false)]
abbrev o151_1:=[xm 3 0,xd 4 .geq 3 6,xm 5 4,xt 5 6 (.mv (.t 0)),xt 5 7 (.bin .leq (.t 6) (xi 11)),xo 8 (.pick (.t 5) (.t 7) (.c (.b false))),xm 2 8]
def a151:AFunc:=⟨(.seq (xr [0] o151_0) (.seq (xr [2] o151_1) .ret)),
  [(.t 2,none)],false⟩
def tab0:List (Option AFunc):=[none,none,none,some a3,some a4,some a5,some a6,some a7,some a8,some a9,some a10,some a11,some a12,some a13,some a14,some a15,some a16,some a17,some a18,some a19,some a20,some a21,some a22,some a23,some a24,some a25,some a26,some a27,some a28,some a29,some a30,some a31,some a32,some a33,some a34,some a35,some a36,some a37,some a38,some a39,some a40,some a41,some a42,some a43,some a44,some a45,some a46,some a47,some a48,some a49,some a50,some a51,some a52,some a53,some a54,some a55,some a56,some a57,some a58,some a59,some a60,some a61,some a62,some a63,some a64,some a65,some a66,some a67,some a68,some a69,some a70,some a71,some a72,some a73,some a74,some a75,some a76,some a77,some a78,some a79,some a80,some a81,some a82,some a83,some a84,some a85,some a86,some a87,some a88,some a89,some a90,some a91,some a92,some a93,some a94,some a95,some a96,some a97,some a98,some a99,some a100,some a101,some a102,some a103,some a104,some a105,some a106,some a107,some a108,some a109,some a110,some a111,some a112,some a113,some a114,some a115,some a116,some a117,some a118,some a119,some a120,some a121,some a122,some a123,some a124,some a125,some a126,some a127,some a128,some a129,some a130,some a131,some a132,some a133,some a134,some a135,some a136,some a137,some a138,some a139,some a140,some a141,some a142,some a143,some a144,some a145,some a146,some a147,some a148,some a149,some a150,some a151]
def F0 (f:Nat):Option AFunc:=(tab0[f]?).join
def X0 (_:Nat) (_:List AV) (_:St):Option (AV × St):=none
end Go.Am
