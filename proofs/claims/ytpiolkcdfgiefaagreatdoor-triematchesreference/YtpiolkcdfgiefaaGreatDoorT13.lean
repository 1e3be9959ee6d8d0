/- A part of the proof. -/
import Derived.Test.YtpiolkcdfgiefaaGreatDoorV2
import Derived.Test.YtpiolkcdfgiefaaGreatDoorV3
import Derived.Test.YtpiolkcdfgiefaaGreatDoorEngVia
section
set_option maxHeartbeats 10000000
open Go Go.Eng Go.Proofs L1 L2 L3 L4 L6
set_option maxRecDepth 100000
namespace L8
structure Tk where
 kind:Int
 off:Int
 n:Int
 text:List UInt8
def tkL(t:Tk):SV:=.cons (.int .i64 t.kind) (.cons (.int .i64 t.off) (.cons (.int .i64 t.n) (.cons (.str t.text) .nil)))
abbrev NR:=Tk×Int×Int
def tk0:Tk:=⟨0,0,0,[]⟩
def sl3:SV:=.cons (.cons (.int .i64 3) .nil) (.cons (.cons (.int .i64 4) .nil) (.cons (.cons (.int .i64 5) .nil) .nil))
def sl1:SV:=.cons (.cons (.int .i64 4) .nil) .nil
def cs3:Nat->Int:=((Em (.slit 1 sl3)).getD (0,λ_=>0)).2
def cs1:Nat->Int:=((Em (.slit 1 sl1)).getD (0,λ_=>0)).2
def mX(t:List UInt8)(f:Nat->Int)(i:Int):Int:=i+(whl ⟨t,f,i,3,cs3⟩:Nat)
def nV(t:List UInt8)(f:Nat->Int)(i:Int):Int:=i+(whl ⟨t,f,i,1,cs1⟩:Nat)
def qS(t:List UInt8)(i j:Int):List UInt8:=(t.drop i.toNat).take (j.toNat-i.toNat)
def qAt(t:List UInt8)(i:Int):Int:=Lib.indexAny (t.drop (i+1).toNat) [34,10]
def nxV(t:List UInt8)(f:Nat->Int)(i:Int):NR :=
 if atV t f i=3 then
  (if mX t f i-i>24 then (tk0,0,2)else (⟨1,i,0,qS t i (mX t f i)⟩,mX t f i,0))
 else if atV t f i=4 then
  (if ((decide (nV t f i-i>13) || decide (atV t f (nV t f i)=3)) || decide (atV t f (nV t f i)=5))=true then (tk0,0,4)else (⟨2,i,B5 (qS t i (nV t f i)),qS t i (nV t f i)⟩,nV t f i,0))
 else if atV t f i=6 then
  (if (decide (qAt t i<0) || decide ((((t.drop (i+1).toNat).getD (qAt t i).toNat 0).toNat:Int)=10))=true then (tk0,0,6)
   else if qAt t i>400 then (tk0,0,2)else (⟨3,i,0,(t.drop (i+1).toNat).take (qAt t i).toNat⟩,i+qAt t i+2,0))
 else if atV t f i=7\/atV t f i=8 then
  (if Lib.hasPrefix (t.drop (i+1).toNat) [61]=true then (⟨4,i,0,qS t i (i+2)⟩,i+2,0)
   else if atV t f i=7 then (tk0,0,3)else (⟨4,i,0,qS t i (i+1)⟩,i+1,0))
 else if atV t f i=9 then (⟨4,i,0,qS t i (i+1)⟩,i+1,0)
 else (tk0,0,3)
def g95:List Nat:=[19,21,23,25,18,28,37,8,10,67,11,9,107,110,13,14,128,7,142,0,1,4,5,6]
def c95:aY :=
 .seq (.region g95 [(zo 4 (.alloc 101 (.cons (.int .i64 0) (.cons (.int .i64 0) (.cons (.int .i64 0) (.cons (.str []) .nil)))))),(zo 5 (.move (cj 0))),(zo 6 (.move (cj 0)))]) (.seq (.seq (.region g95 [(mv 15 0),(mv 16 1),(zo 17 (.call (.c (.fn 117)) [.s 15,.s 16])),(mv 7 17)]) (.seq (.region g95 [(mv 18 7)]) (.block 0 (.seq (.block 5 (.seq (.block 4 (.seq (.block 3 (.seq (.block 2 (.seq (.block 1 (.seq (.seq (.seq (.region g95 [(zo 20 (.bin (.eql) (.s 18) (cj 3))),(mv 19 20)]) (.cond (.s 19) (.exit 1) .skip)) (.seq (.seq (.region g95 [(zo 22 (.bin (.eql) (.s 18) (cj 4))),(mv 21 22)]) (.cond (.s 21) (.exit 2) .skip)) (.seq (.seq (.region g95 [(zo 24 (.bin (.eql) (.s 18) (cj 6))),(mv 23 24)]) (.cond (.s 23) (.exit 3) .skip)) (.seq (.seq (.seq (.region g95 [(zo 26 (.bin (.eql) (.s 18) (cj 7))),(mv 25 26)]) (.cond (.s 25) .skip (.region g95 [(zo 27 (.bin (.eql) (.s 18) (cj 8))),(mv 25 27)]))) (.cond (.s 25) (.exit 4) .skip)) (.seq (.region g95 [(zo 29 (.bin (.eql) (.s 18) (cj 9))),(mv 28 29)]) (.cond (.s 28) (.exit 5) .skip)))))) (.exit 0))) (.seq (.seq (.region g95 [(mv 30 0),(mv 31 1),(zo 32 (.buildSl 3 1 3 (.cons (.int .i64 0) .nil) [(0,1,cj 3),(1,1,cj 4),(2,1,cj 5)])),(zo 33 (.call (.c (.fn 116)) [.s 30,.s 31,.s 32])),(mv 8 33)]) (.seq (.seq (.region g95 [(mv 34 8),(mv 35 1),(zo 36 (.bin (.sub) (.s 34) (.s 35))),(zo 37 (.bin (.gtr) (.s 36) (cj 24)))]) (.cond (.s 37) (.seq (.region g95 [(zo 38 (.build (.cons (.int .i64 0) (.cons (.int .i64 0) (.cons (.int .i64 0) (.cons (.str []) .nil)))) [])),⟨none,none,.store 4 (.s 4) (.s 38),[]⟩,(zo 5 (.move (cj 0))),(zo 6 (.move (cj 2)))]) .ret) .skip)) (.seq (.region g95 [(mv 39 1),(mv 40 0),(zo 41 (.nilCheck (.s 40))),(fa 42 0 41),(ld 43 42),(mv 44 1),(mv 45 8),(zo 46 (.sliceStr (.s 43) (some (.s 44)) (some (.s 45)))),(zo 47 (.build (.cons (.int .i64 0) (.cons (.int .i64 0) (.cons (.int .i64 0) (.cons (.str []) .nil)))) [(0,1,cj 1),(1,1,.s 39),(3,1,.s 46)])),(mv 48 8),⟨none,none,.store 4 (.s 4) (.s 47),[]⟩,(mv 5 48),(zo 6 (.move (cj 0)))]) .ret))) (.exit 0)))) (.seq (.seq (.region g95 [(mv 49 0),(mv 50 1),(zo 51 (.buildSl 3 1 1 (.cons (.int .i64 0) .nil) [(0,1,cj 4)])),(zo 52 (.call (.c (.fn 116)) [.s 49,.s 50,.s 51])),(mv 9 52)]) (.seq (.seq (.region g95 [(mv 53 0),(mv 54 9),(zo 55 (.call (.c (.fn 117)) [.s 53,.s 54])),(mv 10 55)]) (.seq (.region g95 [(mv 56 9),(mv 57 1),(zo 58 (.bin (.sub) (.s 56) (.s 57))),(zo 59 (.bin (.gtr) (.s 58) (cj 13))),(mv 60 59),(mg 61 60 false 10),(zg 62 60 false (.bin (.eql) (.s 61) (cj 3))),(zo 63 (.pick (.s 60) cT (.s 62))),(mv 64 63),(mg 65 64 false 10),(zg 66 64 false (.bin (.eql) (.s 65) (cj 5))),(zo 67 (.pick (.s 64) cT (.s 66)))]) (.cond (.s 67) (.seq (.region g95 [(zo 68 (.build (.cons (.int .i64 0) (.cons (.int .i64 0) (.cons (.int .i64 0) (.cons (.str []) .nil)))) [])),⟨none,none,.store 4 (.s 4) (.s 68),[]⟩,(zo 5 (.move (cj 0))),(zo 6 (.move (cj 4)))]) .ret) .skip))) (.seq (.region g95 [(mv 70 0),(zo 71 (.nilCheck (.s 70))),(fa 72 0 71),(ld 73 72),(mv 74 1),(mv 75 9),(zo 76 (.sliceStr (.s 73) (some (.s 74)) (some (.s 75)))),(zo 77 (.call (.c (.fn 119)) [.s 76])),(mv 69 77),(zo 78 (.extract 0 (.s 69))),(zo 79 (.extract 1 (.s 69))),(mv 11 78),(mv 12 79)]) (.seq (.region g95 [(mv 80 1),(mv 81 11),(mv 82 0),(zo 83 (.nilCheck (.s 82))),(fa 84 0 83),(ld 85 84),(mv 86 1),(mv 87 9),(zo 88 (.sliceStr (.s 85) (some (.s 86)) (some (.s 87)))),(zo 89 (.build (.cons (.int .i64 0) (.cons (.int .i64 0) (.cons (.int .i64 0) (.cons (.str []) .nil)))) [(0,1,cj 2),(1,1,.s 80),(2,1,.s 81),(3,1,.s 88)])),(mv 90 9),⟨none,none,.store 4 (.s 4) (.s 89),[]⟩,(mv 5 90),(zo 6 (.move (cj 0)))]) .ret)))) (.exit 0)))) (.seq (.seq (.region g95 [(mv 91 0),(zo 92 (.nilCheck (.s 91))),(fa 93 0 92),(ld 94 93),(mv 95 1),(zo 96 (.bin (.add) (.s 95) (cj 1))),(zo 97 (.sliceStr (.s 94) (some (.s 96)) none)),(mv 13 97)]) (.seq (.region g95 [(mv 98 13),(zo 99 (.call (.c (.fn 120)) [.s 98,.c (.str [34,10])])),(mv 14 99)]) (.seq (.seq (.region g95 [(mv 100 14),(zo 101 (.bin (.lss) (.s 100) (cj 0))),(mv 102 101),(mg 103 102 false 13),(mg 104 102 false 14),(zg 105 102 false (.idxStr (.s 103) (.s 104))),(zg 106 102 false (.bin (.eql) (.s 105) (.c (.int (.u8) 10)))),(zo 107 (.pick (.s 102) cT (.s 106)))]) (.cond (.s 107) (.seq (.region g95 [(zo 108 (.build (.cons (.int .i64 0) (.cons (.int .i64 0) (.cons (.int .i64 0) (.cons (.str []) .nil)))) [])),⟨none,none,.store 4 (.s 4) (.s 108),[]⟩,(zo 5 (.move (cj 0))),(zo 6 (.move (cj 6)))]) .ret) .skip)) (.seq (.seq (.region g95 [(mv 109 14),(zo 110 (.bin (.gtr) (.s 109) (cj 400)))]) (.cond (.s 110) (.seq (.region g95 [(zo 111 (.build (.cons (.int .i64 0) (.cons (.int .i64 0) (.cons (.int .i64 0) (.cons (.str []) .nil)))) [])),⟨none,none,.store 4 (.s 4) (.s 111),[]⟩,(zo 5 (.move (cj 0))),(zo 6 (.move (cj 2)))]) .ret) .skip)) (.seq (.region g95 [(mv 112 1),(mv 113 13),(mv 114 14),(zo 115 (.sliceStr (.s 113) none (some (.s 114)))),(zo 116 (.build (.cons (.int .i64 0) (.cons (.int .i64 0) (.cons (.int .i64 0) (.cons (.str []) .nil)))) [(0,1,cj 3),(1,1,.s 112),(3,1,.s 115)])),(mv 117 1),(mv 118 14),(zo 119 (.bin (.add) (.s 117) (.s 118))),(zo 120 (.bin (.add) (.s 119) (cj 2))),⟨none,none,.store 4 (.s 4) (.s 116),[]⟩,(mv 5 120),(zo 6 (.move (cj 0)))]) .ret))))) (.exit 0)))) (.seq (.seq (.region g95 [(mv 121 0),(zo 122 (.nilCheck (.s 121))),(fa 123 0 122),(ld 124 123),(mv 125 1),(zo 126 (.bin (.add) (.s 125) (cj 1))),(zo 127 (.sliceStr (.s 124) (some (.s 126)) none)),(zo 128 (.call (.c (.fn 112)) [.s 127,.c (.str [61])]))]) (.cond (.s 128) (.seq (.region g95 [(mv 129 1),(mv 130 0),(zo 131 (.nilCheck (.s 130))),(fa 132 0 131),(ld 133 132),(mv 134 1),(mv 135 1),(zo 136 (.bin (.add) (.s 135) (cj 2))),(zo 137 (.sliceStr (.s 133) (some (.s 134)) (some (.s 136)))),(zo 138 (.build (.cons (.int .i64 0) (.cons (.int .i64 0) (.cons (.int .i64 0) (.cons (.str []) .nil)))) [(0,1,cj 4),(1,1,.s 129),(3,1,.s 137)])),(mv 139 1),(zo 140 (.bin (.add) (.s 139) (cj 2))),⟨none,none,.store 4 (.s 4) (.s 138),[]⟩,(mv 5 140),(zo 6 (.move (cj 0)))]) .ret) .skip)) (.seq (.region g95 [(mv 141 7),(zo 142 (.bin (.eql) (.s 141) (cj 7)))]) (.cond (.s 142) (.seq (.region g95 [(zo 143 (.build (.cons (.int .i64 0) (.cons (.int .i64 0) (.cons (.int .i64 0) (.cons (.str []) .nil)))) [])),⟨none,none,.store 4 (.s 4) (.s 143),[]⟩,(zo 5 (.move (cj 0))),(zo 6 (.move (cj 3)))]) .ret) .skip))))) (.seq (.seq (.region g95 [(mv 144 1),(mv 145 0),(zo 146 (.nilCheck (.s 145))),(fa 147 0 146),(ld 148 147),(mv 149 1),(mv 150 1),(zo 151 (.bin (.add) (.s 150) (cj 1))),(zo 152 (.sliceStr (.s 148) (some (.s 149)) (some (.s 151)))),(zo 153 (.build (.cons (.int .i64 0) (.cons (.int .i64 0) (.cons (.int .i64 0) (.cons (.str []) .nil)))) [(0,1,cj 4),(1,1,.s 144),(3,1,.s 152)])),(mv 154 1),(zo 155 (.bin (.add) (.s 154) (cj 1))),⟨none,none,.store 4 (.s 4) (.s 153),[]⟩,(mv 5 155),(zo 6 (.move (cj 0)))]) .ret) (.exit 0)))))) (.seq (.region g95 [(zo 156 (.build (.cons (.int .i64 0) (.cons (.int .i64 0) (.cons (.int .i64 0) (.cons (.str []) .nil)))) [])),⟨none,none,.store 4 (.s 4) (.s 156),[]⟩,(zo 5 (.move (cj 0))),(zo 6 (.move (cj 3)))]) .ret))
theorem e95:bO Tryz.prog 95 g95 [] [] []=some (c95,[.cell 4 4 true,.slot 5,.slot 6],157):=by kernel_rfl
def Zp:Eng.Spec where
 X:=AtX
 args:=atS.args
 pre:=λx=>0<=x.2.2/\x.2.2<(x.1.length:Int)/\x.1.length<=1000000
 res:=λx=>.tup (.cons (.agg (tkL (nxV x.1 x.2.1 x.2.2).1)) (.cons (.int .i64 (nxV x.1 x.2.1 x.2.2).2.1) (.cons (.int .i64 (nxV x.1 x.2.1 x.2.2).2.2) .nil)))
 inst:=atS.inst
theorem eqs{r:NR}{a b c:Int}{s:List UInt8}{d e:Int}(h:r=(⟨a,b,c,s⟩,d,e)):a=r.1.kind/\b=r.1.off/\c=r.1.n/\s=r.1.text/\d=r.2.1/\e=r.2.2:=by simp[*]
theorem aAf(cs:List UInt8):∀l:List UInt8,Lib.indexAny l cs<(l.length:Int)\/Lib.indexAny l cs=-1:=by
 intro l;induction l with
 |nil=>exact .inr rfl
 |cons b l ih =>
  simp only[Lib.indexAny]
  grind
theorem qbd{t:List UInt8}{i:Int}(h:¬qAt t i<0):0<=qAt t i/\qAt t i<((t.drop (i+1).toNat).length:Int):=by
 have:=aAf [34,10] (t.drop (i+1).toNat)
 grind[qAt]
theorem E9{l:List UInt8}(h:Lib.hasPrefix l [61]=true):1<=l.length:=by
 cases l with
 |nil=>exact absurd h (by decide)
 |cons=>simp
theorem Xs:Zp.Ok Tryz.prog 95:=by
 refine Eng.Spec.okR e95 .nil (λ_=>[(116,.p aDq),(117,.p atS),(119,.p oH),(120,.p tF),(112,.p oJ)]) (λ_ _=>aO.p Vk (aO.p B4 (aO.p V2.atoi (aO.p V3.indexAny (aO.p L5.hasPrefix aO.nil))))) ?_;rintro⟨t,f,i⟩ ⟨(h0:0<=i),(h1:i<(t.length:Int)),(h2:t.length<=1000000)⟩;refine⟨trivial,?_⟩;have w0:whl ⟨t,f,i,3,cs3⟩<=t.length-i.toNat:=vD;have d0:whl ⟨t,f,i,1,cs1⟩<=t.length-i.toNat:=vD;have w1:i<=mX t f i:=by unfold mX; omega
 have w2:mX t f i<=(t.length:Int):=by unfold mX; omega
 have w3:-9223372036854775808<=mX t f i-i:=by omega
 have w4:mX t f i-i<=9223372036854775807:=by omega
 have d1:i<=nV t f i:=by unfold nV; omega
 have d2:nV t f i<=(t.length:Int):=by unfold nV; omega
 have d3:-9223372036854775808<=nV t f i-i:=by omega
 have d4:nV t f i-i<=9223372036854775807:=by omega
 have d5:0<=nV t f i:=by omega
 have p1:-9223372036854775808<=i+1:=by omega
 have p2:i+1<=9223372036854775807:=by omega
 have p3:0<=i+1:=by omega
 have p4:i+1<=(t.length:Int):=by omega
 have p5:-9223372036854775808<=i+2:=by omega
 have p6:i+2<=9223372036854775807:=by omega
 have p7:i<=i+2:=by omega
 have p8:i<=i+1:=by omega
 have h1':i<=(t.length:Int):=by omega
 have h3:(1:Nat)<=1000000:=by decide
 have h4:(3:Nat)<=1000000:=by decide
 have q0:(qS t i (nV t f i)).length<=1000000:=by
  grind[qS]
 have q1:(t.drop (i+1).toNat).length<=1000000:=by grind
 repeat' (first|apply aA|exact trivial|exact rfl|exact λ(j:Nat) (_:j<256)=>rfl|exact h0)
 .refine λ(hc:decide (atV t f i=3)=true)=>?_;have hc:=of_decide_eq_true hc;repeat' (first|apply aA|exact trivial|exact rfl|exact λ(j:Nat) (_:j<256)=>rfl|exact h0|exact h1'|exact h2|exact h4|exact w3|exact w4)
  .refine λ(hg:decide (24<mX t f i-i)=true)=>?_;have hg:=of_decide_eq_true hg;have e:=eqs (show nxV t f i=(⟨0,0,0,[]⟩,0,2) by unfold nxV; rw[if_pos hc,if_pos hg]; rfl);obtain⟨e1,e2,e3,e4,e5,e6⟩:=e;repeat' (first|apply aA|exact trivial|exact rfl|exact e1|exact e2|exact e3|exact e4|exact e5|exact e6)
  .refine λ(hg:decide (24<mX t f i-i)=false)=>?_;have hg:=of_decide_eq_false hg;have e:=eqs (show nxV t f i=(⟨1,i,0,qS t i (mX t f i)⟩,mX t f i,0) by simp_all[nxV,if_neg]);obtain⟨e1,e2,e3,e4,e5,e6⟩:=e;repeat' (first|apply aA|exact trivial|exact rfl|exact e1|exact e2|exact e3|exact e4|exact e5|exact e6|exact h0|exact w1|exact w2)
 .refine λ(hc:decide (atV t f i=3)=false)=>?_;have hc3:=of_decide_eq_false hc;repeat' (first|refine aA ?_ ?_)
  .refine λ(hc:decide (atV t f i=4)=true)=>?_;have hc:=of_decide_eq_true hc;repeat' (first|apply aA|exact trivial|exact rfl|exact λ(j:Nat) (_:j<256)=>rfl|exact h0|exact h1'|exact h2|exact h3|exact d3|exact d4|exact d5)
   .refine λ(hg:bN (bN (decide (13<nV t f i-i)) _ _ _ (decide (atV t f (nV t f i)=3))) _ _ _ (decide (atV t f (nV t f i)=5))=true)=>?_;rw[dL,dL]at hg;have e:=eqs (show nxV t f i=(⟨0,0,0,[]⟩,0,4) by unfold nxV; rw[if_neg hc3,if_pos hc,if_pos hg]; rfl);obtain⟨e1,e2,e3,e4,e5,e6⟩:=e;repeat' (first|apply aA|exact trivial|exact rfl|exact e1|exact e2|exact e3|exact e4|exact e5|exact e6)
   .refine λ(hg:bN (bN (decide (13<nV t f i-i)) _ _ _ (decide (atV t f (nV t f i)=3))) _ _ _ (decide (atV t f (nV t f i)=5))=false)=>?_;rw[dL,dL]at hg;have e:=eqs (show nxV t f i=(⟨2,i,B5 (qS t i (nV t f i)),qS t i (nV t f i)⟩,nV t f i,0) by simp_all[nxV,ne_true_of_eq_false]);obtain⟨e1,e2,e3,e4,e5,e6⟩:=e;repeat' (first|apply aA|exact trivial|exact rfl|exact e1|exact e2|exact e3|exact e4|exact e5|exact e6|exact h0|exact d1|exact d2|exact q0)
  .refine λ(hc:decide (atV t f i=4)=false)=>?_;have hc4:=of_decide_eq_false hc;repeat' (first|refine aA ?_ ?_)
   .refine λ(hc:decide (atV t f i=6)=true)=>?_;have hc:=of_decide_eq_true hc;repeat' (first|apply aA|exact trivial|exact rfl|exact p1|exact p2|exact p3|exact p4|exact q1)
    .exact λ(hg:decide (qAt t i<0)=false)=>qbd (of_decide_eq_false hg)
    .refine λ(hg:bN (decide (qAt t i<0)) _ _ _ (decide ((((t.drop (i+1).toNat).getD (qAt t i).toNat 0).toNat:Int)=10))=true)=>?_;rw[dL]at hg;have e:=eqs (show nxV t f i=(⟨0,0,0,[]⟩,0,6) by unfold nxV; rw[if_neg hc3,if_neg hc4,if_pos hc,if_pos hg]; rfl);obtain⟨e1,e2,e3,e4,e5,e6⟩:=e;repeat' (first|apply aA|exact trivial|exact rfl|exact e1|exact e2|exact e3|exact e4|exact e5|exact e6)
    .refine λ(hg:bN (decide (qAt t i<0)) _ _ _ (decide ((((t.drop (i+1).toNat).getD (qAt t i).toNat 0).toNat:Int)=10))=false)=>?_;rw[dL]at hg;have hq:¬qAt t i<0:=of_decide_eq_false (cZ.1 hg).1;have hq1:=qbd hq;have hq2:0<=qAt t i/\qAt t i<=((t.drop (i+1).toNat).length:Int):=⟨hq1.1,Int.le_of_lt hq1.2⟩;have b1:-9223372036854775808<=i+qAt t i:=by omega
     have b2:i+qAt t i<=9223372036854775807:=by omega
     have b3:-9223372036854775808<=i+qAt t i+2:=by omega
     have b4:i+qAt t i+2<=9223372036854775807:=by omega
     repeat' (first|refine aA ?_ ?_)
     .refine λ(hk:decide (400<qAt t i)=true)=>?_;have hk:=of_decide_eq_true hk;have e:=eqs (show nxV t f i=(⟨0,0,0,[]⟩,0,2) by unfold nxV; rw[if_neg hc3,if_neg hc4,if_pos hc,if_neg (ne_true_of_eq_false hg),if_pos hk]; rfl);obtain⟨e1,e2,e3,e4,e5,e6⟩:=e;repeat' (first|apply aA|exact trivial|exact rfl|exact e1|exact e2|exact e3|exact e4|exact e5|exact e6)
     .refine λ(hk:decide (400<qAt t i)=false)=>?_;have hk:=of_decide_eq_false hk;have e:=eqs (show nxV t f i=(⟨3,i,0,(t.drop (i+1).toNat).take (qAt t i).toNat⟩,i+qAt t i+2,0) by unfold nxV; grind);obtain⟨e1,e2,e3,e4,e5,e6⟩:=e;repeat' (first|apply aA|exact trivial|exact rfl|exact e1|exact e2|exact e3|exact e4|exact e5|exact e6|exact hq2.1|exact hq2.2|exact b1|exact b2|exact b3|exact b4)
   .refine λ(hc:decide (atV t f i=6)=false)=>?_;have hc6:=of_decide_eq_false hc;repeat' (first|refine aA ?_ ?_)
    .refine λ(hc:decide (atV t f i=7)=true)=>?_;have hc7:=of_decide_eq_true hc;repeat' (first|refine aA ?_ ?_)
     rotate_left
     .refine λ(h:decide (atV t f i=7)=false)=>?_;exact absurd hc7 (of_decide_eq_false h)
     refine λ(_:decide (atV t f i=7)=true)=>?_;repeat' (first|apply aA|exact trivial|exact rfl|exact p1|exact p2|exact p3|exact p4)
     .refine λ(hp:Lib.hasPrefix (t.drop (i+1).toNat) [61]=true)=>?_;have hpl:=E9 hp;have p9:i+2<=(t.length:Int):=by grind
      have e:=eqs (show nxV t f i=(⟨4,i,0,qS t i (i+2)⟩,i+2,0) by simp_all[nxV]);obtain⟨e1,e2,e3,e4,e5,e6⟩:=e;repeat' (first|apply aA|exact trivial|exact rfl|exact e1|exact e2|exact e3|exact e4|exact e5|exact e6|exact p5|exact p6|exact h0|exact p7|exact p9)
     .refine λ(hp:Lib.hasPrefix (t.drop (i+1).toNat) [61]=false)=>?_;repeat' (first|refine aA ?_ ?_)
      .refine λ(_:decide (atV t f i=7)=true)=>?_;have e:=eqs (show nxV t f i=(⟨0,0,0,[]⟩,0,3) by unfold nxV; rw[if_neg hc3,if_neg hc4,if_neg hc6,if_pos (.inl hc7),if_neg (ne_true_of_eq_false hp),if_pos hc7]; rfl);obtain⟨e1,e2,e3,e4,e5,e6⟩:=e;repeat' (first|apply aA|exact trivial|exact rfl|exact e1|exact e2|exact e3|exact e4|exact e5|exact e6)
      .refine λ(h7:decide (atV t f i=7)=false)=>?_;exact absurd hc7 (of_decide_eq_false h7)
    .refine λ(hc:decide (atV t f i=7)=false)=>?_;have hc7:=of_decide_eq_false hc;repeat' (first|refine aA ?_ ?_)
     .refine λ(hc:decide (atV t f i=8)=true)=>?_;have hc8:=of_decide_eq_true hc;repeat' (first|apply aA|exact trivial|exact rfl|exact p1|exact p2|exact p3|exact p4)
      .refine λ(hp:Lib.hasPrefix (t.drop (i+1).toNat) [61]=true)=>?_;have hpl:=E9 hp;have p9:i+2<=(t.length:Int):=by grind
       have e:=eqs (show nxV t f i=(⟨4,i,0,qS t i (i+2)⟩,i+2,0) by simp_all[nxV]);obtain⟨e1,e2,e3,e4,e5,e6⟩:=e;repeat' (first|apply aA|exact trivial|exact rfl|exact e1|exact e2|exact e3|exact e4|exact e5|exact e6|exact p5|exact p6|exact h0|exact p7|exact p9)
      .refine λ(hp:Lib.hasPrefix (t.drop (i+1).toNat) [61]=false)=>?_;repeat' (first|refine aA ?_ ?_)
       .refine λ(h7:decide (atV t f i=7)=true)=>?_;exact absurd (of_decide_eq_true h7) hc7
       .refine λ(_:decide (atV t f i=7)=false)=>?_;have e:=eqs (show nxV t f i=(⟨4,i,0,qS t i (i+1)⟩,i+1,0) by simp_all[nxV,ne_true_of_eq_false]);obtain⟨e1,e2,e3,e4,e5,e6⟩:=e;repeat' (first|apply aA|exact trivial|exact rfl|exact e1|exact e2|exact e3|exact e4|exact e5|exact e6|exact p1|exact p2|exact h0|exact p8|exact p4)
     refine λ(hc:decide (atV t f i=8)=false)=>?_;have hc8:=of_decide_eq_false hc;repeat' (first|refine aA ?_ ?_)
     .refine λ(hc:decide (atV t f i=9)=true)=>?_;have hc9:=of_decide_eq_true hc;have e:=eqs (show nxV t f i=(⟨4,i,0,qS t i (i+1)⟩,i+1,0) by simp_all[nxV]);obtain⟨e1,e2,e3,e4,e5,e6⟩:=e;repeat' (first|apply aA|exact trivial|exact rfl|exact e1|exact e2|exact e3|exact e4|exact e5|exact e6|exact p1|exact p2|exact h0|exact p8|exact p4)
     .refine λ(hc:decide (atV t f i=9)=false)=>?_;have hc9:=of_decide_eq_false hc;have e:=eqs (show nxV t f i=(⟨0,0,0,[]⟩,0,3) by unfold nxV; rw[if_neg hc3,if_neg hc4,if_neg hc6,if_neg (by omega),if_neg hc9]; rfl);obtain⟨e1,e2,e3,e4,e5,e6⟩:=e;repeat' (first|apply aA|exact trivial|exact rfl|exact e1|exact e2|exact e3|exact e4|exact e5|exact e6)
end L8
end
section
set_option maxHeartbeats 10000000
namespace EL
open Go Go.Eng
theorem Yl{k:Keep}{f:SV->SV->Prop}{s t:SV}(h:s=t)(hs:f t t):lM k f s t:=by
 subst h; exact Or.inl hs
def lay{T:Type}(g:T->SV)(d:T)(l:List T):Nat->SV:=λi=>g (l.getD i d)
theorem Xh{T:Type}{g:T->SV}{d:T}{L M:List T}{e:Nat->SV}(he:∀i,i<M.length->e i=g (M.getD i d)){n:Nat}(hn:n=L.length){N:List T}(hN:N=L++M){j:Nat}(hj:j<L.length+M.length):gH n (λi=>g (L.getD i d)) e j=g (N.getD j d):=by
 subst hn hN;unfold gH;by_cases h:j<L.length
 .rw [show Nat.blt j L.length=true from Nat.ble_eq_true_of_le h,cond_true];simp[*]
 .have:Nat.blt j L.length=false:=by
   cases hb:Nat.blt j L.length with
   |false=>rfl
   |true=>exact absurd (aQ hb) h
  grind
theorem Xi{T:Type}{g:T->SV}{d:T}{L:List T}{q:T}{e:Nat->SV}(he:e 0=g q){n:Nat}(hn:n=L.length){N:List T}(hN:N=L++[q]){j:Nat}(hj:j<L.length+1):gH n (λi=>g (L.getD i d)) e j=g (N.getD j d):=by
 refine Xh (M:=[q]) (λi hi=>?_) hn hN hj
 grind
end EL
end
section
set_option maxHeartbeats 10000000
open Go Go.Eng Go.Proofs L1 L2 L3 L4 L6 L8
set_option maxRecDepth 100000
namespace L9
theorem aF9{t:List UInt8}{f:Nat->Int}(h3:f 10≠2):∀(m:Nat) {j:Int},0<=j->j<=(t.length:Int)->j<=tl t f m j/\tl t f m j<=(t.length:Int):=by
 intro m;induction m with
 |zero=>intro j h0 h1; exact⟨gY _,h1⟩
 |succ m ih =>
  intro j h0 h1;unfold tl;split
  .rename_i hg;split
   .omega
   .rename_i hn;have:=Zq h0 h1 h3 hg hn;have w:=Ib (f:=f) (t:=t) (j:=j+nl t j) (by omega) (by omega)
    grind
  omega
theorem Jb{t:List UInt8}{f:Nat->Int}(h3:f 10≠2){j:Int}(h0:0<=j)(h1:j<=(t.length:Int)):j<=gap t f j/\gap t f j<=(t.length:Int):=by
 have w:=Ib (f:=f) h0 h1;have:=aF9 (t:=t) h3 (t.length+1) (j:=w1 t f j) (by omega) w.2;unfold gap;omega
theorem Nn{t:List UInt8}{f:Nat->Int}{i:Int}{n:Nat}{cs:Nat->Int}(h0:0<=i)(h1:i<(t.length:Int))(j:Nat)(hj:j<n)(h:cs j=atV t f i):1<=whl ⟨t,f,i,n,cs⟩:=by
 have:=Bl (t:=t) (f:=f) (i:=i) (n:=n) (cs:=cs) (k:=0) h0 (aS _);rw[bW]at this
 grind
theorem aFg{t:List UInt8}{f:Nat->Int}{i:Int}(h0:0<=i)(h1:i<(t.length:Int))(h:(nxV t f i).2.2=0):i<(nxV t f i).2.1/\(nxV t f i).2.1<=(t.length:Int):=by
 have w0:whl ⟨t,f,i,3,cs3⟩<=t.length-i.toNat:=vD;have d0:whl ⟨t,f,i,1,cs1⟩<=t.length-i.toNat:=vD;unfold nxV at h ⊢;split
 .rename_i hc;rw[if_pos hc]at h;have:=Nn (f:=f) (cs:=cs3) h0 h1 0 (by decide:0<3) (by rw[hc]; rfl);split
  .grind
  grind[mX]
 .rename_i hc;rw[if_neg hc]at h;split
  .rename_i hc;rw[if_pos hc]at h;have:=Nn (f:=f) (cs:=cs1) h0 h1 0 (by decide:0<1) (by rw[hc]; rfl);split
   .grind
   grind[nV]
  .rename_i hc;rw[if_neg hc]at h;split
   .rename_i hc;rw[if_pos hc]at h;split
    .grind
    .rename_i hg;rw[if_neg hg]at h;split
     .grind
     .have hq:=qbd (t:=t) (i:=i) (by grind)
      grind
   .rename_i hc;rw[if_neg hc]at h;split
    .rename_i hc;rw[if_pos hc]at h;split
     .grind [E9,List.length_drop]
     grind
    grind
def erV(r:NR)(n:Nat):Int:=if r.2.2=0/\n=5000 then 2 else r.2.2
def lx(t:List UInt8):Nat->Int->List Tk->List Tk×Int×Int
 |0,_,out=>(out,0,0)
 |m+1,i,out=>if i<(t.length:Int) then
   (if erV (nxV t cls i) out.length=0 then lx t m (gap t cls (nxV t cls i).2.1) (out++[(nxV t cls i).1])else ([],erV (nxV t cls i) out.length,i))
  else (out,0,0)
theorem wD{t:List UInt8}{m:Nat}{i:Int}{out:List Tk}:lx t (m+1) i out=if i<(t.length:Int) then
   (if erV (nxV t cls i) out.length=0 then lx t m (gap t cls (nxV t cls i).2.1) (out++[(nxV t cls i).1])else ([],erV (nxV t cls i) out.length,i))
  else (out,0,0):=rfl
def jB(t:List UInt8):List Tk×Int×Int:=if 20000<t.length then ([],2,-1)else lx t (t.length+1) (gap t cls 0) []
def aGv(l:List Tk):SV:=.slice 4 l.length λi=>tkL (l.getD i tk0)
def aE6:Eng.Spec where
 X:=List UInt8
 args:=λt=>.cons (.str t) .nil
 pre:=λ_=>True
 res:=λt=>.tup (.cons (aGv (jB t).1) (.cons (.int .i64 (jB t).2.1) (.cons (.int .i64 (jB t).2.2) .nil)))
 inst:=fun
  |.cons (.str t) _=>some t
  |_=>none
theorem Va(k:Keep)(hp:List (Nat×aL))(m:Nat)(t:Tk):sub k hp (m+6) (tkL t) (tkL t):=⟨⟨rfl,rfl⟩,⟨rfl,rfl⟩,⟨rfl,rfl⟩,rfl,trivial⟩
theorem Yn{k:Keep}{hp:List (Nat×aL)}{m:Nat}{a b:Tk}(h:a=b):sub k hp (m+6) (tkL a) (tkL b):=by grind[Va]
def g65:List Nat:=[13,0,21,36,38,10,8,9,5,7,6,2,3,4]
def c65:aY :=
 .seq (.region g65 [(zo 2 (.move (.c (.nilsl)))),(zo 3 (.move (cj 0))),(zo 4 (.move (cj 0)))]) (.seq (.seq (.region g65 [(mv 11 0),(zo 12 (.lenStr (.s 11))),(zo 13 (.bin (.gtr) (.s 12) (cj 20000)))]) (.cond (.s 13) (.seq (.region g65 [(zo 2 (.move (.c (.nilsl)))),(zo 3 (.move (cj 2))),(zo 4 (.move (cj (-1))))]) .ret) .skip)) (.seq (.region g65 [(mv 14 0),(zo 15 (.call (.c (.fn 93)) [])),(zo 16 (.build (.cons (.str []) (.zeros .i64 256 .nil)) [(0,1,.s 14),(1,256,.s 15)])),(zo 5 (.alloc 127 (.cons (.str []) (.zeros .i64 256 .nil)))),⟨none,none,.store 257 (.s 5) (.s 16),[]⟩]) (.seq (.region g65 [(zo 6 (.move (.c (.nilsl))))]) (.seq (.seq (.region g65 [(zo 17 (.call (.c (.fn 94)) [.s 5,cj 0])),(mv 7 17)]) (.block 0 (.loop 0 [18,19,20,21,25,26,24,27,28,29,8,9,30,31,32,33,34,35,36,10,37,38,39,40,2,3,4,41,42,43,44,6,45,22,23,7] (.seq (.seq (.region g65 [(mv 18 7),(mv 19 0),(zo 20 (.lenStr (.s 19))),(zo 21 (.bin (.lss) (.s 18) (.s 20)))]) (.cond (.s 21) .skip (.exit 0))) (.seq (.block 1 (.seq (.region g65 [(mv 25 7),(zo 26 (.call (.c (.fn 95)) [.s 5,.s 25])),(mv 24 26),(zo 27 (.extract 0 (.s 24))),(zo 28 (.extract 1 (.s 24))),(zo 29 (.extract 2 (.s 24))),(zo 8 (.alloc 101 (.cons (.int .i64 0) (.cons (.int .i64 0) (.cons (.int .i64 0) (.cons (.str []) .nil)))))),⟨none,none,.store 4 (.s 8) (.s 27),[]⟩,(mv 9 28),(mv 10 29)]) (.seq (.seq (.region g65 [(mv 30 10),(zo 31 (.bin (.eql) (.s 30) (cj 0))),(mv 32 31),(mg 33 32 true 6),(zg 34 32 true (.lenSl (.s 33))),(zg 35 32 true (.bin (.eql) (.s 34) (cj 5000))),(zo 36 (.pick (.s 32) (.s 35) cF))]) (.cond (.s 36) (.region g65 [(zo 10 (.move (cj 2)))]) .skip)) (.seq (.seq (.region g65 [(mv 37 10),(zo 38 (.bin (.neq) (.s 37) (cj 0)))]) (.cond (.s 38) (.seq (.region g65 [(mv 39 10),(mv 40 7),(zo 2 (.move (.c (.nilsl)))),(mv 3 39),(mv 4 40)]) .ret) .skip)) (.seq (.region g65 [(mv 41 6),(zo 42 (.load 4 true (.s 8))),(zo 43 (.buildSl 101 4 1 (.cons (.int .i64 0) (.cons (.int .i64 0) (.cons (.int .i64 0) (.cons (.str []) .nil)))) [(0,4,.s 42)])),(zo 44 (.app 101 4 40 (.s 41) (.s 43))),(mv 6 44)]) (.region g65 [(mv 45 9),(mv 7 45)])))))) (.region g65 [(mv 22 7),(zo 23 (.call (.c (.fn 94)) [.s 5,.s 22])),(mv 7 23)])))))) (.seq (.region g65 [(mv 46 6),(mv 2 46),(zo 3 (.move (cj 0))),(zo 4 (.move (cj 0)))]) .ret)))))
theorem e65:bO Tryz.prog 65 g65 [] [] []=some (c65,[.slot 2,.slot 3,.slot 4],47):=by kernel_rfl
theorem aCh:aE6.Ok Tryz.prog 65:=by
 refine Eng.Spec.okR e65 .nil (λ_=>[(93,.p aD5),(94,.p aEo),(95,.p Zp)]) (by grind[aO.p,aAs,aBk,Xs,aO.nil]) ?_;intro (t:List UInt8) _;have h3:cls 10≠2:=by decide
 refine⟨trivial,?_⟩;repeat' (first|refine aA ?_ ?_)
 .refine λ(hg:decide (20000<(t.length:Int))=true)=>?_;have hg:=of_decide_eq_true hg;have e:jB t=([],2,-1):=if_pos (by omega);have e1:0=(jB t).1.length:=by rw[e]; rfl
  have e2:2=(jB t).2.1:=by rw[e]
  have e3:-1=(jB t).2.2:=by rw[e]
  repeat' (first|apply aA|exact trivial|exact rfl|exact e1.symm|exact e2|exact e3)
 .refine λ(hg:decide (20000<(t.length:Int))=false)=>?_;have hg:=of_decide_eq_false hg;have h0:t.length<=1000000:=by omega
  have e:jB t=lx t (t.length+1) (gap t cls 0) []:=if_neg (by omega);have b0:(0:Int)<=0:=by decide
  have b1:(0:Int)<=(t.length:Int):=by omega
  repeat' (first|apply aA|exact trivial|exact rfl|exact λ(j:Nat) (_:j<256)=>rfl|exact b0|exact b1|exact h0|exact h3)
  have g0:=Jb (t:=t) h3 b0 b1;refine⟨⟨Nat×Int×List Tk,λx=>(0<=x.2.1/\x.2.1<=(t.length:Int))/\(t.length:Int)-x.2.1<x.1/\x.2.2.length<=5000/\lx t x.1 x.2.1 x.2.2=jB t,
   λx=>[(7,.int .i64 x.2.1),(6,.lsl 20 4 x.2.2.length)],λx=>[(20,.arr 101 4 x.2.2.length λi=>tkL (x.2.2.getD i tk0))],λx=>x.1⟩,(t.length+1,gap t cls 0,[]),?_,?_,?_⟩
  .grind
  .repeat' (first|apply aA|exact trivial|exact rfl|omega|fail)
  rintro⟨m,j,out⟩ ⟨⟨(k0:0<=j),(k1:j<=(t.length:Int))⟩,(k2:(t.length:Int)-j<m),(k3:out.length<=5000),(k4:lx t m j out=jB t)⟩;obtain⟨m,rfl⟩:∃q,m=q+1:=⟨m-1,by omega⟩;repeat' (first|refine aA ?_ ?_)
  .refine λ(hg:decide (j<(t.length:Int))=true)=>?_;have k5:=of_decide_eq_true hg;rw[wD,if_pos k5]at k4;repeat' (first|apply aA|exact trivial|exact rfl|exact λ(j:Nat) (_:j<256)=>rfl|exact k0|exact k5|exact h0)
   .refine λ(hp:bN (decide ((nxV t cls j).2.2=0)) (.s 35) cF (decide ((out.length:Int)=5000)) false=true)=>?_;rw[bW,aI,decide_eq_true_eq,decide_eq_true_eq]at hp;have e1:erV (nxV t cls j) out.length=2:=if_pos ⟨hp.1,by omega⟩;rw[e1,if_neg (by decide)]at k4;have f1:0=(jB t).1.length:=by grind
    have f2:2=(jB t).2.1:=by rw[<- k4]
    have f3:j=(jB t).2.2:=by rw[<- k4]
    repeat' (first|refine aA ?_ ?_)
    .refine λ(_:(!decide ((2:Int)=0))=true)=>?_;repeat' (first|apply aA|exact trivial|exact rfl|exact f1.symm|exact f2|exact f3)
    .exact (by grind)
   .refine λ(hp:bN (decide ((nxV t cls j).2.2=0)) (.s 35) cF (decide ((out.length:Int)=5000)) false=false)=>?_;rw[bW]at hp;repeat' (first|refine aA ?_ ?_)
    .refine λ(he:(!decide ((nxV t cls j).2.2=0))=true)=>?_;have he:(nxV t cls j).2.2≠0:=by grind
     have e1:erV (nxV t cls j) out.length=(nxV t cls j).2.2:=if_neg λh=>he h.1;rw[e1,if_neg he]at k4;have f1:0=(jB t).1.length:=by grind
     have f2:(nxV t cls j).2.2=(jB t).2.1:=by rw[<- k4]
     have f3:j=(jB t).2.2:=by rw[<- k4]
     repeat' (first|apply aA|exact trivial|exact rfl|exact f1.symm|exact f2|exact f3)
    .refine λ(he:(!decide ((nxV t cls j).2.2=0))=false)=>?_;have he:(nxV t cls j).2.2=0:=by grind
     have hn:out.length≠5000:=(by grind);have e1:erV (nxV t cls j) out.length=(nxV t cls j).2.2:=if_neg λh=>hn h.2;rw[e1,if_pos he]at k4;have hb:=aFg k0 k5 he;have c0:0<=(nxV t cls j).2.1:=by omega
     have hgb:=Jb h3 c0 hb.2;repeat' (first|apply aA|exact trivial|exact rfl|exact λ(j:Nat) (_:j<256)=>rfl|exact c0|exact hb.2|exact h0|exact h3)
     .grind
     .grind
     refine aB (m,gap t cls (nxV t cls j).2.1,out++[(nxV t cls j).1]) ?_;have r0:0<=gap t cls (nxV t cls j).2.1:=by omega
     have r1:(t.length:Int)-gap t cls (nxV t cls j).2.1<(m:Int):=by omega
     have r2:(out++[(nxV t cls j).1]).length<=5000:=by grind
     have r3:out.length+1=(out++[(nxV t cls j).1]).length:=by simp
     repeat' (first|apply aA|exact trivial|exact rfl|exact λ(j:Nat) (_:j<256)=>rfl|exact r0|exact hgb.2|exact r1|exact r2|exact k4|exact r3)
     .exact λ(i:Nat) (hi:i<out.length+1)=>EL.Yl (EL.Xi (g:=tkL) (d:=tk0) (L:=out) (q:=(nxV t cls j).1) (N:=out++[(nxV t cls j).1]) rfl rfl rfl hi) (Va ..)
     simp
  .refine λ(hg:decide (j<(t.length:Int))=false)=>?_;have k5:=of_decide_eq_false hg;rw[wD,if_neg k5]at k4;have e1:out.length=(jB t).1.length:=by rw[<- k4]
   have e2:0=(jB t).2.1:=by rw[<- k4]
   have e3:0=(jB t).2.2:=by rw[<- k4]
   repeat' (first|apply aA|exact trivial|exact rfl|exact e1|exact e2|exact e3)
   .omega
   .exact λ(i:Nat) (_:i<out.length)=>Or.inl (Yn (by grind))
end L9
end
section
set_option maxHeartbeats 10000000
open Go Go.Eng Go.Proofs L1 L2 L3 L4 L6 L8 L9 T1 T2 T3 T4 T5 T6
set_option maxRecDepth 100000
namespace T10
def idV(t:B):Bool:=decide ((jB t).2.1=0) && decide (((jB t).1.length:Int)=1) && decide (((jB t).1.getD 0 tk0).kind=1) && decide (((jB t).1.getD 0 tk0).text=t)
def okB(b:UInt8):Bool:=!(decide (b.toNat<32) || decide (126<b.toNat))
def kF(t i:B):Bool:=t.all okB && (decide (t.length<=120) && idV i)
def g38:List Nat:=[0,11,25,3,5,4,1,2]
def c38:aY :=
 .seq (.region g38 [(zo 1 (.box 32 (.s 0))),(zo 2 (.move cF))]) (.seq (.seq (.region g38 [(zo 3 (.move (cj 0)))]) (.block 0 (.loop 0 [7,8,9,10,11,14,15,16,17,18,19,20,21,22,23,24,25,2,12,13,3] (.seq (.seq (.region g38 [(mv 7 3),(fa 8 0 1),(ld 9 8),(zo 10 (.lenStr (.s 9))),(zo 11 (.bin (.lss) (.s 7) (.s 10)))]) (.cond (.s 11) .skip (.exit 0))) (.seq (.block 1 (.seq (.region g38 [(fa 14 0 1),(ld 15 14),(mv 16 3),(zo 17 (.idxStr (.s 15) (.s 16))),(zo 18 (.bin (.lss) (.s 17) (.c (.int (.u8) 32)))),(mv 19 18),(fg 20 19 false 0 1),(lg 21 19 false 20),(mg 22 19 false 3),(zg 23 19 false (.idxStr (.s 21) (.s 22))),(zg 24 19 false (.bin (.gtr) (.s 23) (.c (.int (.u8) 126)))),(zo 25 (.pick (.s 19) cT (.s 24)))]) (.cond (.s 25) (.seq (.region g38 [(zo 2 (.move cF))]) .ret) .skip))) (.region g38 [(mv 12 3),(zo 13 (.bin (.add) (.s 12) (cj 1))),(mv 3 13)])))))) (.seq (.region g38 [(fa 27 1 1),(ld 28 27),(zo 29 (.call (.c (.fn 65)) [.s 28])),(mv 26 29),(zo 30 (.extract 0 (.s 26))),(zo 31 (.extract 1 (.s 26))),(zo 32 (.extract 2 (.s 26))),(mv 4 30),(mv 5 31),(mv 6 32)]) (.seq (.drawn g38 (.pure 0 (fa 33 0 1) (.pure 1 (ld 34 33) (.pure 2 (zo 35 (.lenStr (.s 34))) (.pure 3 (zo 36 (.bin (.leq) (.s 35) (cj 120))) (.pure 4 (mv 37 36) (.pure 5 (mg 38 37 true 5) (.pure 6 (zg 39 37 true (.bin (.eql) (.s 38) (cj 0))) (.pure 7 (zo 40 (.pick (.s 37) (.s 39) cF)) (.pure 8 (mv 41 40) (.pure 9 (mg 42 41 true 4) (.pure 10 (zg 43 41 true (.lenSl (.s 42))) (.pure 11 (zg 44 41 true (.bin (.eql) (.s 43) (cj 1))) (.pure 12 (zo 45 (.pick (.s 41) (.s 44) cF)) (.pure 13 (mv 46 45) (.pure 14 (mg 47 46 true 4) (.pure 15 (zg 48 46 true (.idxSl 4 (.s 47) (cj 0))) (.pure 16 (fg 49 46 true 0 48) (.pure 17 (lg 50 46 true 49) (.pure 18 (zg 51 46 true (.bin (.eql) (.s 50) (cj 1))) (.pure 19 (zo 52 (.pick (.s 46) (.s 51) cF)) (.pure 20 (mv 53 52) (.pure 21 (mg 54 53 true 4) (.pure 22 (zg 55 53 true (.idxSl 4 (.s 54) (cj 0))) (.pure 23 (fg 56 53 true 3 55) (.pure 24 (lg 57 53 true 56) (.pure 25 (fg 58 53 true 1 1) (.pure 26 (lg 59 53 true 58) (.pure 27 (zg 60 53 true (.bin (.eql) (.s 57) (.s 59))) (.pure 28 (zo 61 (.pick (.s 53) (.s 60) cF)) (.pure 29 (mv 2 61) .done))))))))))))))))))))))))))))))) .ret)))
theorem e38:bO Tryz.prog 38 g38 [] [] []=some (c38,[.slot 2],62):=by kernel_rfl
def Yt:Eng.Spec where
 X:=B×B
 args:=λx=>.cons (.agg (xK x.1 x.2)) .nil
 pre:=λx=>x.1.length<4611686018427387904
 res:=λx=>.bool (kF x.1 x.2)
 inst:=fun
  |.cons (.agg (.cons (.str t) (.cons (.str i) .nil))) _=>some (t,i)
  |_=>none
theorem Vh:Yt.Ok Tryz.prog 38:=by
 refine Eng.Spec.okR e38 .nil (λ_=>[(65,.p aE6)]) (λ_ _=>aO.p aCh aO.nil) ?_;rintro⟨t,i⟩ (ht:t.length<4611686018427387904);refine⟨trivial,?_⟩;refine⟨⟨Nat,λj=>j<=t.length/\t.all okB=(t.drop j).all okB,λj=>[(3,.int .i64 (j:Int))],λ_=>[],λj=>t.length-j⟩,0,?_,?_,?_⟩
 .simp
 .repeat' (first|apply aA|exact trivial|exact rfl)
 rintro(j:Nat) ⟨(k0:j<=t.length),(k1:t.all okB=(t.drop j).all okB)⟩;repeat' (first|refine aA ?_ ?_)
 .refine λ(h:decide ((j:Int)<(t.length:Int))=true)=>?_;have hj:j<t.length:=by grind
  have g0:(0:Int)<=(j:Int):=by omega
  have g1:(j:Int)<(t.length:Int):=by omega
  have g2:-9223372036854775808<=(j:Int)+1:=by omega
  have g3:(j:Int)+1<=9223372036854775807:=by omega
  have hd:t.drop j=t.getD j 0::t.drop (j+1):=by simp[*]
  have k2:t.all okB=(okB (t.getD j 0) && (t.drop (j+1)).all okB):=by grind
  repeat' (first|apply aA|(with_reducible first|exact g0|exact g1))
  .simp [*]
  .refine λ(h:bN (decide (((t.getD j 0).toNat:Int)<32)) cT (.s 24) true (decide ((126:Int)<((t.getD j 0).toNat:Int)))=true)=>?_;rw[dL,fN,decide_eq_true_eq,decide_eq_true_eq]at h;have e:false=kF t i:=by
    unfold kF;rw[k2];have:okB (t.getD j 0)=false:=by
     unfold okB
     grind
    grind
   repeat' (first|exact e)
  .refine λ(h:bN (decide (((t.getD j 0).toNat:Int)<32)) cT (.s 24) true (decide ((126:Int)<((t.getD j 0).toNat:Int)))=false)=>?_;rw[dL,cZ,decide_eq_false_iff_not,decide_eq_false_iff_not]at h;have e:okB (t.getD j 0)=true:=by
    grind[okB]
   rw[e,jD]at k2;have k3:j+1<=t.length:=hj;have k4:t.length-(j+1)<t.length-j:=by omega
   repeat' (first|apply aA|(with_reducible first|exact g2|exact g3))
   refine aB (j+1) ?_;repeat' (first|apply aA|exact trivial|exact rfl|with_reducible exact k2|omega|fail)
 .refine λ(h:decide ((j:Int)<(t.length:Int))=false)=>?_;have hj:j=t.length:=by grind
  have k2:t.all okB=true:=by simp[*]
  have gl:∀c:Bool,bN (bN c (.s 39) cF (decide ((jB i).2.1=0)) false) (.s 44) cF (decide (((jB i).1.length:Int)=1)) false=true->0<=(0:Int)/\(0:Int)<((jB i).1.length:Int):=λc h=>by
   simp_all[bW,Bool.and_eq_true,decide_eq_true_eq]
  have gl2:∀b c:Bool,bN (bN (bN c (.s 39) cF (decide ((jB i).2.1=0)) false) (.s 44) cF (decide (((jB i).1.length:Int)=1)) false) (.s 51) cF b false=true->0<=(0:Int)/\(0:Int)<((jB i).1.length:Int):=λb c h=>by
   simp_all[bW,Bool.and_eq_true]
  have e:bN (bN (bN (bN (decide ((t.length:Int)<=120)) (.s 39) cF (decide ((jB i).2.1=0)) false) (.s 44) cF (decide (((jB i).1.length:Int)=1)) false) (.s 51) cF (decide (((jB i).1.getD 0 tk0).kind=1)) false) (.s 60) cF (decide (((jB i).1.getD 0 tk0).text=i)) false=kF t i:=by
   rw[bW,bW,bW,bW];unfold kF idV
   grind
  repeat' (first|apply aA|exact trivial|exact rfl)
  .exact gl _
  .exact gl2 _ _
  .exact e
end T10
end
section
set_option maxHeartbeats 10000000
open Go Go.Eng Go.Proofs T1 T2 T3 T4 T5 T6 T10
set_option maxRecDepth 100000
namespace T11
abbrev Ky:=B×B
def k0:Ky:=([],[])
def jN(k:Ky):SV:=xK k.1 k.2
theorem kI(k:Keep)(hp:List (Nat×aL))(m:Nat)(x:Ky):sub k hp (m+4) (jN x) (jN x):=⟨rfl,rfl,trivial⟩
def ksE(l:List Ky):SV:=.slice 2 l.length λi=>jN (l.getD i k0)
def kM(k:Ky):Bool:=!kF k.1 k.2
def g37:List Nat:=[0,1,2]
def c37:aY :=
 .seq (.region g37 [(zo 1 (.box 32 (.s 0))),(zo 2 (.move cF))]) (.seq (.region g37 [(zo 3 (.load 2 true (.s 1))),(zo 4 (.call (.c (.fn 38)) [.s 3])),(zo 5 (.not (.s 4))),(mv 2 5)]) .ret)
theorem e37:bO Tryz.prog 37 g37 [] [] []=some (c37,[.slot 2],6):=by kernel_rfl
def nwS:Eng.Spec where
 X:=B×B
 args:=λx=>.cons (.agg (xK x.1 x.2)) .nil
 pre:=λx=>x.1.length<4611686018427387904
 res:=λx=>.bool (kM x)
 inst:=fun
  |.cons (.agg (.cons (.str t) (.cons (.str i) .nil))) _=>some (t,i)
  |_=>none
theorem aFf:nwS.Ok Tryz.prog 37:=by
 refine Eng.Spec.okR e37 .nil (λ_=>[(38,.p Yt)]) (λ_ _=>aO.p Vh aO.nil) ?_;rintro⟨t,i⟩ (ht:t.length<4611686018427387904);refine⟨trivial,?_⟩;repeat' (first|apply aA|exact trivial|exact rfl|exact ht)
def ixV(l:List Ky):Int:=match (List.range l.length).find? (λi=>kM (l.getD i k0)) with
 |some i=>i
 |none=>-1
theorem aEu{l:List Ky}{k:Nat}(hk:k<l.length)(he:kM (l.getD k k0)=true)(h:∀j,j<k->kM (l.getD j k0)=false):ixV l=k:=by
 grind[ixV,List.find?_range_eq_some]
theorem aEv{l:List Ky}(h:∀j,j<l.length->kM (l.getD j k0)=false):ixV l=-1:=by
 grind[ixV]
theorem aB0{l:List Ky}:decide (ixV l>=0)=l.any kM:=by
 rw[bH,decide_eq_true_iff,iP];unfold ixV;split
 .grind
 .rename_i hi;have:=kA.1 hi;constructor
  .omega
  .rintro ⟨x,hx,hb⟩;obtain⟨i,h1,rfl⟩:=bG hx;simp_all
def g64:List Nat:=[7,9,1,0,16,5,8,4]
def c64:aY :=
 .seq (.region g64 [(zo 4 (.move (cj 0)))]) (.seq (.seq (.region g64 [(mv 6 0),(zo 7 (.lenSl (.s 6))),(zo 8 (.move (cj 0)))]) (.block 0 (.loop 0 [9,10,5,11,12,13,14,15,16,17,4,18,8] (.seq (.region g64 [(zo 9 (.bin (.lss) (.s 8) (.s 7)))]) (.seq (.cond (.s 9) .skip (.exit 0)) (.seq (.block 1 (.seq (.region g64 [(mv 10 8),(mv 5 10)]) (.seq (.region g64 [(mv 11 1),(mv 12 0),(mv 13 5),(zo 14 (.idxSl 2 (.s 12) (.s 13))),(zo 15 (.load 2 true (.s 14))),(zo 16 (.call (.s 11) [.s 15]))]) (.cond (.s 16) (.seq (.region g64 [(mv 17 5),(mv 4 17)]) .ret) .skip)))) (.region g64 [(zo 18 (.bin (.add) (.s 8) (cj 1))),(mv 8 18)]))))))) (.seq (.region g64 [(zo 4 (.move (cj (-1))))]) .ret))
theorem e64:bO Tryz.prog 64 g64 [] [] []=some (c64,[.slot 4],19):=by kernel_rfl
def aEx:Eng.Spec where
 X:=List Ky
 args:=λl=>.cons (ksE l) (.cons (.fn 37 .nil) .nil)
 pre:=λl=>l.length<4611686018427387904/\∀j,j<l.length->(l.getD j k0).1.length<4611686018427387904
 res:=λl=>.int .i64 (ixV l)
 inst:=λ_=>none
theorem aB1:aEx.Ok Tryz.prog 64:=by
 refine Eng.Spec.okR e64 .nil (λ_=>[(37,.p nwS)]) (λ_ _=>aO.p aFf aO.nil) ?_;rintro(l:List Ky) ⟨(hn:l.length<4611686018427387904),(ht:∀j,j<l.length->(l.getD j k0).1.length<4611686018427387904)⟩;refine⟨trivial,?_⟩;refine⟨⟨Nat,λk=>k<=l.length/\∀j,j<k->kM (l.getD j k0)=false,λk=>[(8,.int .i64 (k:Int))],λ_=>[],λk=>l.length-k⟩,0,⟨aS _,λj hj=>absurd hj (cO j)⟩,?_,?_⟩
 .repeat' (first|apply aA|exact trivial|exact rfl|exact lz λ_=>rfl|fail)
 rintro(k:Nat) ⟨(hk:k<=l.length),(hf:∀j,j<k->kM (l.getD j k0)=false)⟩;repeat' (first|refine aA ?_ ?_)
 .refine λ(hg:decide ((k:Int)<(l.length:Int))=true)=>?_;have h1:(k:Int)<(l.length:Int):=of_decide_eq_true hg;have h0:(0:Int)<=(k:Int):=by omega
  have b1:-9223372036854775808<=(k:Int)+1:=by omega
  have b2:(k:Int)+1<=9223372036854775807:=by omega
  have hkl:k<l.length:=by omega
  have h3:=ht k hkl;repeat' (first|apply aA|exact trivial|exact rfl|(with_reducible first|exact h0|exact h1))
  .exact h3
  .refine λ(hv:kM (l.getD k k0)=true)=>?_;have e:(k:Int)=ixV l:=(aEu hkl hv hf).symm;repeat' (first|apply aA|exact rfl|exact e)
  .refine λ(hv:kM (l.getD k k0)=false)=>?_;repeat' (first|apply aA|(with_reducible first|exact b1|exact b2))
   refine aB (k+1) ?_;have hkl':k+1<=l.length:=hkl;have hf':∀j,j<k+1->kM (l.getD j k0)=false:=λj hj=>by
    by_cases e:j=k
    .rw [e]; exact hv
    .exact hf j (by omega)
   have hms:l.length-(k+1)<l.length-k:=by omega
   repeat' (first|apply aA|exact trivial|exact rfl|(with_reducible first|exact hkl'|exact hf'|exact hms)|exact lz λ_=>rfl|fail)
 .refine λ(hg:decide ((k:Int)<(l.length:Int))=false)=>?_;have h1:k=l.length:=by have:=of_decide_eq_false hg; omega
  subst h1;have e:-1=ixV l:=(aEv hf).symm;repeat' (first|apply aA|exact rfl|exact e)
def aEw:bC:=aEx.mof Int (λx y=>y=ixV x) (λ_ y=>.int .i64 y)
theorem Xa:aEw.Ok Tryz.prog 64:=Eng.Spec.jW aB1 λ_ _=>⟨_,rfl,rfl⟩
def g36:List Nat:=[0,1,4]
def c36:aY :=
 .seq (.region g36 [(zo 4 (.move cF))]) (.seq (.region g36 [(mv 5 0),(mv 6 1),(zo 7 (.call (.c (.fn 64)) [.s 5,.s 6])),(zo 8 (.bin (.geq) (.s 7) (cj 0))),(mv 4 8)]) .ret)
theorem e36:bO Tryz.prog 36 g36 [] [] []=some (c36,[.slot 4],9):=by kernel_rfl
def aD7:Eng.Spec where
 X:=List Ky
 args:=λl=>.cons (ksE l) (.cons (.fn 37 .nil) .nil)
 pre:=λl=>l.length<4611686018427387904/\∀j,j<l.length->(l.getD j k0).1.length<4611686018427387904
 res:=λl=>.bool (l.any kM)
 inst:=λ_=>none
theorem aAt:aD7.Ok Tryz.prog 36:=by
 refine Eng.Spec.okR e36 .nil (λ_=>[(64,.m aEw)]) (λ_ _=>aO.m Xa aO.nil) ?_;rintro(l:List Ky) ⟨(hn:l.length<4611686018427387904),(ht:∀j,j<l.length->(l.getD j k0).1.length<4611686018427387904)⟩;refine⟨trivial,?_⟩;refine aB l (aB [] ?_);repeat' (first|apply aA|exact trivial|exact rfl|exact lz λ_=>rfl|exact hn|exact ht)
 refine λ(y:Int) (hy:y=ixV l)=>?_;have e:decide (y>=0)=l.any kM:=by simp_all[aB0]
 repeat' (first|exact e)
def aD6:bC:=aD7.mof Bool (λx y=>y=x.any kM) (λ_ y=>.bool y)
theorem V8:aD6.Ok Tryz.prog 36:=Eng.Spec.jW aAt λ_ _=>⟨_,rfl,rfl⟩
end T11
end
section
set_option maxHeartbeats 10000000
open Go Go.Eng Go.Proofs T1 T2 T3 T4 T5 T6 T7 T8 T9 T10 T11
set_option maxRecDepth 100000
namespace T12
theorem Xx{b:Bool}(h:(!b)=true):b=false:=by grind
theorem Xw{b:Bool}(h:(!b)=false):b=true:=by grind
def HX.has(x:HX):Bool:=tQ x.N x.r x.t x.i
def yG(x:HX):Int:=bif HX.has x then 0 else 10
def nB(x:HX):Nat->NO:=bif HX.has x then iL false x.fin.N x.fin.x 0 x.i else x.N
def g14:List Nat:=[1,5,8,0,3,4]
def c14:aY :=
 .seq (.region g14 [(zo 3 (.box 32 (.s 1))),(zo 4 (.move (cj 0)))]) (.seq (.block 0 (.seq (.region g14 [(mv 6 0),(zo 7 (.ptrEq false (.s 6) (.c (.nilptr)))),(mv 5 7)]) (.cond (.s 5) (.seq (.region g14 [(zo 4 (.move (cj 1)))]) .ret) (.seq (.region g14 [(mv 9 0),(zo 10 (.load 2 true (.s 3))),(zo 11 (.call (.c (.fn 40)) [.s 9,.s 10])),(zo 12 (.not (.s 11))),(mv 8 12)]) (.cond (.s 8) (.seq (.region g14 [(zo 4 (.move (cj 10)))]) .ret) .skip))))) (.seq (.region g14 [(mv 13 0),(fa 14 0 3),(ld 15 14),(zo 16 (.mkfn 42 [.s 3])),(zo 17 (.call (.c (.fn 41)) [.s 13,.s 15,cj (-1),.s 16]))]) (.seq (.region g14 [(zo 4 (.move (cj 0)))]) .ret)))
theorem e14:bO Tryz.prog 14 g14 [] [] []=some (c14,[.slot 4],18):=by kernel_rfl
def Ri:bC where
 X:=HX
 Y:=Unit
 args:=λx=>.cons (.own 0 0) (.cons (.agg (xK x.t x.i)) .nil)
 pre:=λx=>x.p=false/\Cl x.N x.c/\isNode x.N x.r/\x.t.length<4611686018427387904/\(∀v,atN x.N x.r x.t=some v->(nX x.N v).length<=1000000)/\(HX.has x=true->chS.pre x)
 h0:=λx=>tH 0 1 x.r x.N
 nx0:=2
 post:=λ_ _=>True
 res:=λx _=>.int .i64 (yG x)
 h1:=λx _=>tH 0 1 x.r (nB x)
 nx1:=2
theorem Wg:Ri.Ok Tryz.prog 14:=by
 refine Eng.bC.okR e14 .nil (λ_=>[(40,.m aBm),(41,.m chS)]) (by grind[aO.m,R5,Y4,aO.nil]) ?_;rintro⟨p,N,c,r,t,i⟩ ⟨(hp:p=false),(hc:Cl N c),(hr:isNode N r),(ht:t.length<4611686018427387904),(hi:∀v,atN N r t=some v->(nX N v).length<=1000000),(hch:HX.has (HX.mk p N c r t i)=true->chS.pre (HX.mk p N c r t i))⟩;subst hp;refine⟨trivial,?_⟩;repeat' (first|apply aA|exact zf|refine zt ?_|fail)
 refine aB (r,N,c,t,i) (aB [0,1] ?_);repeat' (first|apply aA|exact trivial|exact rfl|exact zm N rfl|(with_reducible first|exact hc|exact hr|exact ht|exact hi))
 refine λ(y:Bool) (hy:y=tQ N r t i)=>?_;subst hy;repeat' (first|refine aA ?_ ?_)
 .refine λ(h:(!tQ N r t i)=true)=>?_;have h0:HX.has (HX.mk false N c r t i)=false:=Xx h;have e1:10=yG (HX.mk false N c r t i):=by grind[yG]
  have e2:nB (HX.mk false N c r t i)=N:=by grind[nB]
  refine aB () ?_;repeat' (first|apply aA|exact trivial|exact rfl|exact e1|exact sub_eq e2 (λi=>mL (by exact rfl) (by exact rfl) (N i))|fail)
 .refine λ(h:(!tQ N r t i)=false)=>?_;have h0:HX.has (HX.mk false N c r t i)=true:=Xw h;have e1:0=yG (HX.mk false N c r t i):=by grind[yG]
  have e2:∀y,nB (HX.mk false N c r t i)=iL false (HX.mk false N c r t i).fin.N (HX.mk false N c r t i).fin.x y i:=by
   grind[nB,iL]
  have hpre:=hch h0;refine aB (HX.mk false N c r t i) (aB [0,1,2] ?_);repeat' (first|exact hpre|apply aA|exact trivial|exact rfl|exact zr N rfl rfl|fail)
  refine λ(y:Nat) _=>?_;refine aB () ?_;repeat' (first|apply aA|exact trivial|exact rfl|exact e1|exact sub_eq (e2 y) (λi=>mL (by exact rfl) (by exact rfl) _)|fail)
def qI(x:HX):Int:=bif kF x.t x.i then (bif HX.has x then 8 else bif decide (20000<=szN x.N x.r)then 22 else 0)else 1
def HX.puts(x:HX):Bool:=kF x.t x.i && (!HX.has x && !decide (20000<=szN x.N x.r))
def sR(x:HX)(y:Nat):Nat->NO:=bif HX.puts x then iL true x.fin.N x.fin.x y x.i else x.N
def g15:List Nat:=[1,5,13,17,0,3,4]
def c15:aY :=
 .seq (.region g15 [(zo 3 (.box 32 (.s 1))),(zo 4 (.move (cj 0)))]) (.seq (.block 0 (.seq (.region g15 [(mv 6 0),(zo 7 (.ptrEq false (.s 6) (.c (.nilptr)))),(mv 8 7),(zg 9 8 false (.load 2 true (.s 3))),(zg 10 8 false (.call (.c (.fn 38)) [.s 9])),(zg 11 8 false (.not (.s 10))),(zo 12 (.pick (.s 8) cT (.s 11))),(mv 5 12)]) (.cond (.s 5) (.seq (.region g15 [(zo 4 (.move (cj 1)))]) .ret) (.seq (.region g15 [(mv 14 0),(zo 15 (.load 2 true (.s 3))),(zo 16 (.call (.c (.fn 40)) [.s 14,.s 15])),(mv 13 16)]) (.cond (.s 13) (.seq (.region g15 [(zo 4 (.move (cj 8)))]) .ret) (.seq (.region g15 [(mv 18 0),(zo 19 (.nilCheck (.s 18))),(fa 20 0 19),(ld 21 20),(zo 22 (.nilCheck (.s 21))),(fa 23 2 22),(ld 24 23),(zo 25 (.bin (.geq) (.s 24) (cj 20000))),(mv 17 25)]) (.cond (.s 17) (.seq (.region g15 [(zo 4 (.move (cj 22)))]) .ret) .skip))))))) (.seq (.region g15 [(mv 26 0),(fa 27 0 3),(ld 28 27),(zo 29 (.mkfn 45 [.s 3])),(zo 30 (.call (.c (.fn 41)) [.s 26,.s 28,cj 1,.s 29]))]) (.seq (.region g15 [(zo 4 (.move (cj 0)))]) .ret)))
theorem e15:bO Tryz.prog 15 g15 [] [] []=some (c15,[.slot 4],31):=by kernel_rfl
def X4:bC where
 X:=HX
 Y:=Nat
 args:=λx=>.cons (.own 0 0) (.cons (.agg (xK x.t x.i)) .nil)
 pre:=λx=>x.p=true/\Cl x.N x.c/\isNode x.N x.r/\x.t.length<4611686018427387904/\(∀v,atN x.N x.r x.t=some v->(nX x.N v).length<=1000000)/\(HX.puts x=true->chS.pre x)
 h0:=λx=>tH 0 1 x.r x.N
 nx0:=2
 post:=λx y=>HX.puts x=true->chS.post x y
 res:=λx _=>.int .i64 (qI x)
 h1:=λx y=>tH 0 1 x.r (sR x y)
 nx1:=2
theorem Ub:X4.Ok Tryz.prog 15:=by
 refine Eng.bC.okR e15 .nil (λ_=>[(38,.p Yt),(40,.m aBm),(41,.m chS)]) (λ_ _=>aO.p Vh (aO.m R5 (aO.m Y4 aO.nil))) ?_;rintro⟨p,N,c,r,t,i⟩ ⟨(hp:p=true),(hc:Cl N c),(hr:isNode N r),(ht:t.length<4611686018427387904),(hi:∀v,atN N r t=some v->(nX N v).length<=1000000),(hch:HX.puts (HX.mk p N c r t i)=true->chS.pre (HX.mk p N c r t i))⟩;subst hp;obtain⟨a,n,m,sz,mk,hrn⟩:=hr;have hr:isNode N r:=⟨a,n,m,sz,mk,hrn⟩;have hsz:szN N r=sz:=H7 hrn;refine⟨trivial,?_⟩;repeat' (first|apply aA|exact trivial|exact rfl|refine zt ?_|exact ht)
 .refine λ(h:bN false cT (.s 11) true (!kF t i)=true)=>?_;rw[dL,gV]at h;have hv:kF t i=false:=Xx h;have e1:1=qI (HX.mk true N c r t i):=by simp_all[qI,cond_false]
  have e0:HX.puts (HX.mk true N c r t i)=false:=by simp_all[HX.puts,Bool.false_and]
  have e2:∀y,sR (HX.mk true N c r t i) y=N:=(by grind[sR]);have e3:HX.puts (HX.mk true N c r t i)=true->chS.post (HX.mk true N c r t i) (0:Nat):=(by grind);refine aB (0:Nat) ?_;repeat' (first|exact e3|apply aA|exact trivial|exact rfl|exact e1|exact sub_eq (e2 _) (λi=>oS (by exact rfl) (N i))|fail)
 .refine λ(h:bN false cT (.s 11) true (!kF t i)=false)=>?_;rw[dL,gV]at h;have hv:kF t i=true:=Xw h;refine aB (r,N,c,t,i) (aB [0,1] ?_);repeat' (first|apply aA|exact trivial|exact rfl|exact zm N rfl|(with_reducible first|exact hc|exact hr|exact ht|exact hi))
  refine λ(y:Bool) (hy:y=tQ N r t i)=>?_;subst hy;repeat' (first|refine aA ?_ ?_)
  .refine λ(h:tQ N r t i=true)=>?_;have e1:8=qI (HX.mk true N c r t i):=by simp_all[qI,HX.has,cond_true]
   have e0:HX.puts (HX.mk true N c r t i)=false:=by simp_all[HX.puts,HX.has,Bool.not_true,Bool.false_and,Bool.and_false]
   have e2:∀y,sR (HX.mk true N c r t i) y=N:=(by grind[sR]);have e3:HX.puts (HX.mk true N c r t i)=true->chS.post (HX.mk true N c r t i) (0:Nat):=(by grind);refine aB (0:Nat) ?_;repeat' (first|exact e3|apply aA|exact trivial|exact rfl|exact e1|exact sub_eq (e2 _) (λi=>mL (by exact rfl) (by exact rfl) (N i))|fail)
  .refine λ(h:tQ N r t i=false)=>?_;refine aB (rnO [(0,0),(1,1)] [(0,0),(1,1)] (noO 1 (.node a n m sz mk))) (aA (by grind) ?_);repeat' (first|refine aA ?_ ?_)
   .refine λ(h3:decide (sz>=20000)=true)=>?_;have h4:decide (20000<=szN N r)=true:=by simp[*]
    have e1:22=qI (HX.mk true N c r t i):=by simp_all[qI,HX.has,cond_true,cond_false]
    have e0:HX.puts (HX.mk true N c r t i)=false:=by simp_all[HX.puts,HX.has,Bool.not_true,Bool.and_false]
    have e2:∀y,sR (HX.mk true N c r t i) y=N:=(by grind[sR]);have e3:HX.puts (HX.mk true N c r t i)=true->chS.post (HX.mk true N c r t i) (0:Nat):=(by grind);refine aB (0:Nat) ?_;repeat' (first|exact e3|apply aA|exact trivial|exact rfl|exact e1|exact sub_eq (e2 _) (λi=>mL (by exact rfl) (by exact rfl) (N i))|fail)
   .refine λ(h3:decide (sz>=20000)=false)=>?_;have h4:decide (20000<=szN N r)=false:=by simp[*]
    have e1:0=qI (HX.mk true N c r t i):=by simp[*,qI,HX.has,cond_true,cond_false]
    have e0:HX.puts (HX.mk true N c r t i)=true:=by simp_all[HX.puts,HX.has,Bool.not_false]
    have e2:∀y,sR (HX.mk true N c r t i) y=iL true (HX.mk true N c r t i).fin.N (HX.mk true N c r t i).fin.x y i:=(by grind[sR]);have hpre:=hch e0;refine aB (HX.mk true N c r t i) (aB [0,1,2] ?_);repeat' (first|exact hpre|apply aA|exact trivial|exact rfl|exact zr N rfl rfl|fail)
    refine λ(y:Nat) (hy:chS.post (HX.mk true N c r t i) y)=>?_;have e3:HX.puts (HX.mk true N c r t i)=true->chS.post (HX.mk true N c r t i) y:=λ_=>hy;refine aB y ?_;repeat' (first|exact e3|apply aA|exact trivial|exact rfl|exact e1|exact sub_eq (e2 y) (λi=>mL (by exact rfl) (by exact rfl) _)|fail)
end T12
end
section
set_option maxHeartbeats 10000000
open Go Go.Eng Go.Proofs T1 T2 T3 T4 T5 T6 T7 T8 T9 T10 T11 T12
set_option maxRecDepth 100000
namespace T13
mutual
inductive TT where
 |node (ids:List B) (k:TK)
inductive TK where
 |nil
 |cons (b:UInt8) (t:TT) (r:TK)
end
abbrev Dg:=List B->List (UInt8×B)->B
mutual
def szT:TT->Nat
 |.node ids k=>ids.length+szK k
def szK:TK->Nat
 |.nil=>0
 |.cons _ t r=>szT t+szK r
end
mutual
def iK(D:Dg):TT->B
 |.node ids k=>D ids (oX D k)
def oX(D:Dg):TK->List (UInt8×B)
 |.nil=>[]
 |.cons b t r=>(b,iK D t)::oX D r
end
def cC:TK->List UInt8
 |.nil=>[]
 |.cons b _ r=>b::cC r
def dN:TK->UInt8->Option TT
 |.nil,_=>none
 |.cons x t r,b=>if x=b then some t else dN r b
def lK:TK->UInt8->TT->TK
 |.nil,b,t=>.cons b t .nil
 |.cons x s r,b,t=>if x=b then .cons b t r else if b<x then .cons b t (.cons x s r)else .cons x s (lK r b t)
def rQ:TK->UInt8->TK
 |.nil,_=>.nil
 |.cons x s r,b=>if x=b then r else .cons x s (rQ r b)
def emp:TT:=.node [] .nil
def mH(i:B):B->TT->TT
 | [],.node ids k=>.node (oY ids ids.length (eV ids i) i) k
 |b::t,.node ids k=>.node ids (lK k b (mH i t ((dN k b).getD emp)))
def A6(ids:List B)(i:B):List B:=ids.take (eV ids i)++ids.drop (eV ids i+1)
def rO(i:B):B->TT->TT
 | [],.node ids k=>.node (A6 ids i) k
 |b::t,.node ids k =>
  match dN k b with
  |none=>.node ids k
  |some s=>if szT s=1 then .node ids (rQ k b)else .node ids (lK k b (rO i t s))
def bV:B->TT->Option TT
 | [],T=>some T
 |b::t,.node _ k=>(dN k b).bind (bV t)
def vY:TT->List B
 |.node ids _=>ids
def Sb(l:List UInt8):Prop:=l.Pairwise (· < ·)
mutual
def wfT:TT->Prop
 |.node ids k=>Srt ids/\Sb (cC k)/\wfK k
def wfK:TK->Prop
 |.nil=>True
 |.cons _ t r=>wfT t/\0<szT t/\wfK r
end
mutual
def gJ(D:Dg)(N:Nat->NO):TT->Nat->(Nat->Prop)->Prop
 |.node ids k,v,F=>∃a m mk l q G,N v=.node a ids.length m ((ids.length+szK k:Nat):Int) mk /\
   ((N a=.none/\ids=[])\/∃A,N a=.arr A/\A≠[]/\ids.length<=A.length/\A.take ids.length=ids)/\N m=.map l q/\(mk=[]\/mk=D ids (oX D k)) /\
   (l.map (·.1)).Perm ((cC k).map fY)/\kK D N k l G/\a≠v/\a≠m/\¬G v/\¬G m/\¬G a/\(∀x,F x↔x=v\/x=m\/x=a\/G x)
def kK(D:Dg)(N:Nat->NO):TK->List (bQ×Nat×Nat)->(Nat->Prop)->Prop
 |.nil,_,G=>∀x,¬G x
 |.cons b t r,l,G=>∃u τ G1 G2,mget l (fY b)=some (u,τ)/\gJ D N t u G1/\kK D N r l G2/\(∀x,G1 x->¬G2 x)/\(∀x,G x↔G1 x\/G2 x)
end
mutual
theorem lX{D:Dg}{N N':Nat->NO}:∀{T:TT} {v:Nat} {F:Nat->Prop},gJ D N T v F->(∀x,F x->N' x=N x)->gJ D N' T v F
 |.node ids k,v,F,h,e=>by
  simp only[gJ]at h ⊢;obtain⟨a,m,mk,l,q,G,h1,h2,h3,h4,h5,h6,h7,h8,h9,h10,h11,h12⟩:=h;have ev:=e v ((h12 v).2 (.inl rfl));have em:=e m ((h12 m).2 (.inr (.inl rfl)));have ea:=e a ((h12 a).2 (.inr (.inr (.inl rfl))));exact⟨a,m,mk,l,q,G,ev.trans h1,by rw[ea]; exact h2,em.trans h3,h4,h5,kY h6 λx hx=>e x ((h12 x).2 (.inr (.inr (.inr hx)))),h7,h8,h9,h10,h11,h12⟩
theorem kY{D:Dg}{N N':Nat->NO}:∀{k:TK} {l:List (bQ×Nat×Nat)} {G:Nat->Prop},kK D N k l G->(∀x,G x->N' x=N x)->kK D N' k l G
 |.nil,l,G,h,e=>by
  grind[kK]
 |.cons b t r,l,G,h,e=>by
  simp only[kK]at h ⊢;obtain⟨u,τ,G1,G2,h1,h2,h3,h4,h5⟩:=h;exact⟨u,τ,G1,G2,h1,lX h2 λx hx=>e x ((h5 x).2 (.inl hx)),kY h3 λx hx=>e x ((h5 x).2 (.inr hx)),h4,h5⟩
end
theorem vZ{a b:UInt8}(h:fY a=fY b):a=b:=by
 grind[fY,UInt8.toNat_inj]
theorem Cn{V:Type}{l:List (bQ×V×Nat)}{k:bQ}(h:k∉l.map (·.1)):mget l k=none:=by
 induction l with
 |nil=>rfl
 |cons x r ih =>
  simp only[bK,aR,not_or]at h;simp only[mget]
  grind
theorem qA{k:TK}{b:UInt8}(h:b∉cC k):dN k b=none:=by
 induction k using TK.rec (motive_1:=λ_=>True) with
 |node=>trivial
 |nil=>rfl
 |cons x t r _ ih =>
  simp only[cC,aR,not_or]at h;simp only[dN]
  grind
theorem xH{k:TK}{b:UInt8}(h:b∈cC k):∃t,dN k b=some t:=by
 induction k using TK.rec (motive_1:=λ_=>True) with
 |node=>trivial
 |nil=>cases h
 |cons x t r _ ih =>
  simp only[dN];by_cases e:x=b
  .simp [*]
  .rw [if_neg e];rcases aR.1 h with rfl|h
   .grind
   grind
theorem oQ{D:Dg}{N:Nat->NO}{b:UInt8}{s:TT}:∀{k:TK} {l:List (bQ×Nat×Nat)} {G:Nat->Prop},kK D N k l G->dN k b=some s->Sb (cC k) ->
  ∃u τ G1 G2,mget l (fY b)=some (u,τ)/\gJ D N s u G1/\(∀x,G1 x->¬G2 x)/\(∀x,G x↔G1 x\/G2 x) /\
   (∀N' s' G1',gJ D N' s' u G1'->(∀x,G1' x->¬G2 x)->(∀x,G2 x->N' x=N x)->kK D N' (lK k b s') l (λx=>G1' x\/G2 x)) /\
   (∀N' l',(∀x,x≠b->mget l' (fY x)=mget l (fY x))->(∀x,G2 x->N' x=N x)->kK D N' (rQ k b) l' G2)
 |.nil,_,_,_,h,_=>by cases h
 |.cons x t r,l,G,h,hg,hs=>by
  simp only[kK]at h;obtain⟨u,τ,G1,G2,h1,h2,h3,h4,h5⟩:=h;simp only[dN]at hg;have hs':=aT.1 hs;by_cases e:x=b
  .rw [if_pos e]at hg;cases hg;subst e;refine⟨u,τ,G1,G2,h1,h2,h4,h5,?_,?_⟩
   .intro N' s' G1' k1 k2 k3;simp only[lK,if_true,kK];exact⟨u,τ,G1',G2,h1,k1,kY h3 k3,k2,λ_=>dF⟩
   .intro N' l' k1 k2;simp only[rQ,if_true];refine repK_map (λy hy=>k1 y ?_) (kY h3 k2);rintro rfl;exact absurd (hs'.1 _ hy) (gZ _)
  .rw [if_neg e]at hg;obtain⟨v,σ,H1,H2,j1,j2,j3,j4,j5,j6⟩:=oQ h3 hg hs'.2;have hlt:¬b<x:=by
    intro hb;have hmem:b∈cC r:=by
     cases hm:decide (b∈cC r) with
     |true=>grind
     |false=>grind[qA]
    grind
   refine⟨v,σ,H1,λy=>G1 y\/H2 y,j1,j2,?_,?_,?_,?_⟩
   .grind
   .grind
   .intro N' s' G1' k1 k2 k3;simp only[lK,if_neg e,if_neg hlt,kK];refine⟨u,τ,G1,λy=>G1' y\/H2 y,h1,(by grind[lX]),(by grind),?_,?_⟩
    .grind
    grind
   .intro N' l' k1 k2;simp only[rQ,if_neg e,kK];exact⟨u,τ,G1,H2,(k1 x e).trans h1,(by grind[lX]),(by grind),(by grind),λ_=>dF⟩
where
 repK_map {D:Dg} {N:Nat->NO} {l l':List (bQ×Nat×Nat)}:∀{k:TK} {G:Nat->Prop},(∀y,y∈cC k->mget l' (fY y)=mget l (fY y))->kK D N k l G->kK D N k l' G
  |.nil,G,_,h=>by grind[kK]
  |.cons b t r,G,e,h=>by
   simp only[kK]at h ⊢;obtain⟨u,τ,G1,G2,h1,h2,h3,h4,h5⟩:=h;exact⟨u,τ,G1,G2,(e b aZ).trans h1,h2,repK_map (λy hy=>e y (aW _ hy)) h3,h4,h5⟩
end T13
end
