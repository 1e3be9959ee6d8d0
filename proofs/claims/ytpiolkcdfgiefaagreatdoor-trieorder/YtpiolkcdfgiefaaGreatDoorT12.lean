/- A part of the proof. -/
import Derived.Test.YtpiolkcdfgiefaaGreatDoorV2
import Derived.Test.YtpiolkcdfgiefaaGreatDoorV3
import Derived.Test.YtpiolkcdfgiefaaGreatDoorT3
section
open Go Go.Eng Go.Proofs L1 L2 L3 L4 L6
set_option maxRecDepth 100000
namespace L8
structure Tk where
 kind:Int
 off:Int
 n:Int
 text:List UInt8
def tkL (t:Tk):SV:=.cons (.int .i64 t.kind) (.cons (.int .i64 t.off) (.cons (.int .i64 t.n) (.cons (.str t.text) .nil)))
abbrev NR:=Tk×Int×Int
def tk0:Tk:=⟨0,0,0,[]⟩
def sl3:SV:=.cons (.cons (.int .i64 3) .nil) (.cons (.cons (.int .i64 4) .nil) (.cons (.cons (.int .i64 5) .nil) .nil))
def sl1:SV:=.cons (.cons (.int .i64 4) .nil) .nil
def cs3:Nat->Int:=((Em (.slit 1 sl3)).getD (0,fun _=>0)).2
def cs1:Nat->Int:=((Em (.slit 1 sl1)).getD (0,fun _=>0)).2
def uK (t:List UInt8) (f:Nat->Int) (i:Int):Int:=i+(whl ⟨t,f,i,3,cs3⟩:Nat)
def nZ (t:List UInt8) (f:Nat->Int) (i:Int):Int:=i+(whl ⟨t,f,i,1,cs1⟩:Nat)
def vH (t:List UInt8) (i j:Int):List UInt8:=(t.drop i.toNat).take (j.toNat - i.toNat)
def qAt (t:List UInt8) (i:Int):Int:=Lib.indexAny (t.drop (i+1).toNat) [34,10]
def nxV (t:List UInt8) (f:Nat->Int) (i:Int):NR :=
 if atV t f i=3 then
  (if uK t f i - i > 24 then (tk0,0,2) else (⟨1,i,0,vH t i (uK t f i)⟩,uK t f i,0))
 else if atV t f i=4 then
  (if ((decide (nZ t f i - i > 13) || decide (atV t f (nZ t f i)=3)) || decide (atV t f (nZ t f i)=5))=true then (tk0,0,4) else (⟨2,i,B7 (vH t i (nZ t f i)),vH t i (nZ t f i)⟩,nZ t f i,0))
 else if atV t f i=6 then
  (if (decide (qAt t i < 0) || decide ((((t.drop (i+1).toNat).getD (qAt t i).toNat 0).toNat:Int)=10))=true then (tk0,0,6)
   else if qAt t i > 400 then (tk0,0,2) else (⟨3,i,0,(t.drop (i+1).toNat).take (qAt t i).toNat⟩,i+qAt t i+2,0))
 else if atV t f i=7\/atV t f i=8 then
  (if Lib.hasPrefix (t.drop (i+1).toNat) [61]=true then (⟨4,i,0,vH t i (i+2)⟩,i+2,0)
   else if atV t f i=7 then (tk0,0,3) else (⟨4,i,0,vH t i (i+1)⟩,i+1,0))
 else if atV t f i=9 then (⟨4,i,0,vH t i (i+1)⟩,i+1,0)
 else (tk0,0,3)
def g95:List Nat:=[19,21,23,25,18,28,37,8,10,67,11,9,107,110,13,14,128,7,142,0,1,4,5,6]
def c95:bH :=
 .seq (.region g95 [(zo 4 (.alloc 101 (.cons (.int .i64 0) (.cons (.int .i64 0) (.cons (.int .i64 0) (.cons (.str []) .nil)))))),(zo 5 (.move (cj 0))),(zo 6 (.move (cj 0)))]) (.seq (.seq (.region g95 [(mv 15 0),(mv 16 1),(zo 17 (.call (.c (.fn 117)) [.s 15,.s 16])),(mv 7 17)]) (.seq (.region g95 [(mv 18 7)]) (.block 0 (.seq (.block 5 (.seq (.block 4 (.seq (.block 3 (.seq (.block 2 (.seq (.block 1 (.seq (.seq (.seq (.region g95 [(zo 20 (.bin (.eql) (.s 18) (cj 3))),(mv 19 20)]) (.cond (.s 19) (.exit 1) .skip)) (.seq (.seq (.region g95 [(zo 22 (.bin (.eql) (.s 18) (cj 4))),(mv 21 22)]) (.cond (.s 21) (.exit 2) .skip)) (.seq (.seq (.region g95 [(zo 24 (.bin (.eql) (.s 18) (cj 6))),(mv 23 24)]) (.cond (.s 23) (.exit 3) .skip)) (.seq (.seq (.seq (.region g95 [(zo 26 (.bin (.eql) (.s 18) (cj 7))),(mv 25 26)]) (.cond (.s 25) .skip (.region g95 [(zo 27 (.bin (.eql) (.s 18) (cj 8))),(mv 25 27)]))) (.cond (.s 25) (.exit 4) .skip)) (.seq (.region g95 [(zo 29 (.bin (.eql) (.s 18) (cj 9))),(mv 28 29)]) (.cond (.s 28) (.exit 5) .skip)))))) (.exit 0))) (.seq (.seq (.region g95 [(mv 30 0),(mv 31 1),(zo 32 (.buildSl 3 1 3 (.cons (.int .i64 0) .nil) [(0,1,cj 3),(1,1,cj 4),(2,1,cj 5)])),(zo 33 (.call (.c (.fn 116)) [.s 30,.s 31,.s 32])),(mv 8 33)]) (.seq (.seq (.region g95 [(mv 34 8),(mv 35 1),(zo 36 (.bin (.sub) (.s 34) (.s 35))),(zo 37 (.bin (.gtr) (.s 36) (cj 24)))]) (.cond (.s 37) (.seq (.region g95 [(zo 38 (.build (.cons (.int .i64 0) (.cons (.int .i64 0) (.cons (.int .i64 0) (.cons (.str []) .nil)))) [])),⟨none,none,.store 4 (.s 4) (.s 38),[]⟩,(zo 5 (.move (cj 0))),(zo 6 (.move (cj 2)))]) .ret) .skip)) (.seq (.region g95 [(mv 39 1),(mv 40 0),(zo 41 (.nilCheck (.s 40))),(fa 42 0 41),(ld 43 42),(mv 44 1),(mv 45 8),(zo 46 (.sliceStr (.s 43) (some (.s 44)) (some (.s 45)))),(zo 47 (.build (.cons (.int .i64 0) (.cons (.int .i64 0) (.cons (.int .i64 0) (.cons (.str []) .nil)))) [(0,1,cj 1),(1,1,.s 39),(3,1,.s 46)])),(mv 48 8),⟨none,none,.store 4 (.s 4) (.s 47),[]⟩,(mv 5 48),(zo 6 (.move (cj 0)))]) .ret))) (.exit 0)))) (.seq (.seq (.region g95 [(mv 49 0),(mv 50 1),(zo 51 (.buildSl 3 1 1 (.cons (.int .i64 0) .nil) [(0,1,cj 4)])),(zo 52 (.call (.c (.fn 116)) [.s 49,.s 50,.s 51])),(mv 9 52)]) (.seq (.seq (.region g95 [(mv 53 0),(mv 54 9),(zo 55 (.call (.c (.fn 117)) [.s 53,.s 54])),(mv 10 55)]) (.seq (.region g95 [(mv 56 9),(mv 57 1),(zo 58 (.bin (.sub) (.s 56) (.s 57))),(zo 59 (.bin (.gtr) (.s 58) (cj 13))),(mv 60 59),(mg 61 60 false 10),(zg 62 60 false (.bin (.eql) (.s 61) (cj 3))),(zo 63 (.pick (.s 60) cT (.s 62))),(mv 64 63),(mg 65 64 false 10),(zg 66 64 false (.bin (.eql) (.s 65) (cj 5))),(zo 67 (.pick (.s 64) cT (.s 66)))]) (.cond (.s 67) (.seq (.region g95 [(zo 68 (.build (.cons (.int .i64 0) (.cons (.int .i64 0) (.cons (.int .i64 0) (.cons (.str []) .nil)))) [])),⟨none,none,.store 4 (.s 4) (.s 68),[]⟩,(zo 5 (.move (cj 0))),(zo 6 (.move (cj 4)))]) .ret) .skip))) (.seq (.region g95 [(mv 70 0),(zo 71 (.nilCheck (.s 70))),(fa 72 0 71),(ld 73 72),(mv 74 1),(mv 75 9),(zo 76 (.sliceStr (.s 73) (some (.s 74)) (some (.s 75)))),(zo 77 (.call (.c (.fn 119)) [.s 76])),(mv 69 77),(zo 78 (.extract 0 (.s 69))),(zo 79 (.extract 1 (.s 69))),(mv 11 78),(mv 12 79)]) (.seq (.region g95 [(mv 80 1),(mv 81 11),(mv 82 0),(zo 83 (.nilCheck (.s 82))),(fa 84 0 83),(ld 85 84),(mv 86 1),(mv 87 9),(zo 88 (.sliceStr (.s 85) (some (.s 86)) (some (.s 87)))),(zo 89 (.build (.cons (.int .i64 0) (.cons (.int .i64 0) (.cons (.int .i64 0) (.cons (.str []) .nil)))) [(0,1,cj 2),(1,1,.s 80),(2,1,.s 81),(3,1,.s 88)])),(mv 90 9),⟨none,none,.store 4 (.s 4) (.s 89),[]⟩,(mv 5 90),(zo 6 (.move (cj 0)))]) .ret)))) (.exit 0)))) (.seq (.seq (.region g95 [(mv 91 0),(zo 92 (.nilCheck (.s 91))),(fa 93 0 92),(ld 94 93),(mv 95 1),(zo 96 (.bin (.add) (.s 95) (cj 1))),(zo 97 (.sliceStr (.s 94) (some (.s 96)) none)),(mv 13 97)]) (.seq (.region g95 [(mv 98 13),(zo 99 (.call (.c (.fn 120)) [.s 98,.c (.str [34,10])])),(mv 14 99)]) (.seq (.seq (.region g95 [(mv 100 14),(zo 101 (.bin (.lss) (.s 100) (cj 0))),(mv 102 101),(mg 103 102 false 13),(mg 104 102 false 14),(zg 105 102 false (.idxStr (.s 103) (.s 104))),(zg 106 102 false (.bin (.eql) (.s 105) (.c (.int (.u8) 10)))),(zo 107 (.pick (.s 102) cT (.s 106)))]) (.cond (.s 107) (.seq (.region g95 [(zo 108 (.build (.cons (.int .i64 0) (.cons (.int .i64 0) (.cons (.int .i64 0) (.cons (.str []) .nil)))) [])),⟨none,none,.store 4 (.s 4) (.s 108),[]⟩,(zo 5 (.move (cj 0))),(zo 6 (.move (cj 6)))]) .ret) .skip)) (.seq (.seq (.region g95 [(mv 109 14),(zo 110 (.bin (.gtr) (.s 109) (cj 400)))]) (.cond (.s 110) (.seq (.region g95 [(zo 111 (.build (.cons (.int .i64 0) (.cons (.int .i64 0) (.cons (.int .i64 0) (.cons (.str []) .nil)))) [])),⟨none,none,.store 4 (.s 4) (.s 111),[]⟩,(zo 5 (.move (cj 0))),(zo 6 (.move (cj 2)))]) .ret) .skip)) (.seq (.region g95 [(mv 112 1),(mv 113 13),(mv 114 14),(zo 115 (.sliceStr (.s 113) none (some (.s 114)))),(zo 116 (.build (.cons (.int .i64 0) (.cons (.int .i64 0) (.cons (.int .i64 0) (.cons (.str []) .nil)))) [(0,1,cj 3),(1,1,.s 112),(3,1,.s 115)])),(mv 117 1),(mv 118 14),(zo 119 (.bin (.add) (.s 117) (.s 118))),(zo 120 (.bin (.add) (.s 119) (cj 2))),⟨none,none,.store 4 (.s 4) (.s 116),[]⟩,(mv 5 120),(zo 6 (.move (cj 0)))]) .ret))))) (.exit 0)))) (.seq (.seq (.region g95 [(mv 121 0),(zo 122 (.nilCheck (.s 121))),(fa 123 0 122),(ld 124 123),(mv 125 1),(zo 126 (.bin (.add) (.s 125) (cj 1))),(zo 127 (.sliceStr (.s 124) (some (.s 126)) none)),(zo 128 (.call (.c (.fn 112)) [.s 127,.c (.str [61])]))]) (.cond (.s 128) (.seq (.region g95 [(mv 129 1),(mv 130 0),(zo 131 (.nilCheck (.s 130))),(fa 132 0 131),(ld 133 132),(mv 134 1),(mv 135 1),(zo 136 (.bin (.add) (.s 135) (cj 2))),(zo 137 (.sliceStr (.s 133) (some (.s 134)) (some (.s 136)))),(zo 138 (.build (.cons (.int .i64 0) (.cons (.int .i64 0) (.cons (.int .i64 0) (.cons (.str []) .nil)))) [(0,1,cj 4),(1,1,.s 129),(3,1,.s 137)])),(mv 139 1),(zo 140 (.bin (.add) (.s 139) (cj 2))),⟨none,none,.store 4 (.s 4) (.s 138),[]⟩,(mv 5 140),(zo 6 (.move (cj 0)))]) .ret) .skip)) (.seq (.region g95 [(mv 141 7),(zo 142 (.bin (.eql) (.s 141) (cj 7)))]) (.cond (.s 142) (.seq (.region g95 [(zo 143 (.build (.cons (.int .i64 0) (.cons (.int .i64 0) (.cons (.int .i64 0) (.cons (.str []) .nil)))) [])),⟨none,none,.store 4 (.s 4) (.s 143),[]⟩,(zo 5 (.move (cj 0))),(zo 6 (.move (cj 3)))]) .ret) .skip))))) (.seq (.seq (.region g95 [(mv 144 1),(mv 145 0),(zo 146 (.nilCheck (.s 145))),(fa 147 0 146),(ld 148 147),(mv 149 1),(mv 150 1),(zo 151 (.bin (.add) (.s 150) (cj 1))),(zo 152 (.sliceStr (.s 148) (some (.s 149)) (some (.s 151)))),(zo 153 (.build (.cons (.int .i64 0) (.cons (.int .i64 0) (.cons (.int .i64 0) (.cons (.str []) .nil)))) [(0,1,cj 4),(1,1,.s 144),(3,1,.s 152)])),(mv 154 1),(zo 155 (.bin (.add) (.s 154) (cj 1))),⟨none,none,.store 4 (.s 4) (.s 153),[]⟩,(mv 5 155),(zo 6 (.move (cj 0)))]) .ret) (.exit 0)))))) (.seq (.region g95 [(zo 156 (.build (.cons (.int .i64 0) (.cons (.int .i64 0) (.cons (.int .i64 0) (.cons (.str []) .nil)))) [])),⟨none,none,.store 4 (.s 4) (.s 156),[]⟩,(zo 5 (.move (cj 0))),(zo 6 (.move (cj 3)))]) .ret))
theorem e95:cR Tryz.prog 95 g95 [] [] []=some (c95,[.cell 4 4 true,.slot 5,.slot 6],157):=by kernel_rfl
def Wk:Eng.Spec where
 X:=AtX
 args:=atS.args
 pre:=fun x=>0<=x.2.2/\x.2.2 < (x.1.length:Int)/\x.1.length<=1000000
 res:=fun x=>.tup (.cons (.agg (tkL (nxV x.1 x.2.1 x.2.2).1)) (.cons (.int .i64 (nxV x.1 x.2.1 x.2.2).2.1) (.cons (.int .i64 (nxV x.1 x.2.1 x.2.2).2.2) .nil)))
 inst:=atS.inst
theorem eqs {r:NR} {a b c:Int} {s:List UInt8} {d e:Int} (h:r=(⟨a,b,c,s⟩,d,e)):a=r.1.kind/\b=r.1.off/\c=r.1.n/\s=r.1.text/\d=r.2.1/\e=r.2.2:=by subst h; exact ⟨rfl,rfl,rfl,rfl,rfl,rfl⟩
theorem Xb (cs:List UInt8):∀ l:List UInt8,Lib.indexAny l cs < (l.length:Int)\/Lib.indexAny l cs=-1:=by
 intro l;induction l with
 | nil=>exact .inr rfl
 | cons b l ih =>
  simp only [Lib.indexAny];split
  ·left; simp only [aY]; omega
  ·split
   ·exact .inr rfl
   ·rename_i h;left;simp only [aY];rcases ih with ih|ih
    ·omega
    ·exact absurd (by simp [ih]) h
theorem qbd {t:List UInt8} {i:Int} (h:¬ qAt t i < 0):0<=qAt t i/\qAt t i < ((t.drop (i+1).toNat).length:Int):=by
 have:=Xb [34,10] (t.drop (i+1).toNat);unfold qAt at h ⊢;omega
theorem E4 {l:List UInt8} (h:Lib.hasPrefix l [61]=true):1<=l.length:=by
 cases l with
 | nil=>exact absurd h (by decide)
 | cons=>simp
theorem U4:Wk.Ok Tryz.prog 95:=by
 refine Eng.Spec.okR e95 .nil (fun _=>[(116,.p Zs),(117,.p atS),(119,.p pF),(120,.p pC),(112,.p pK)]) (fun _ _=>aZ.p S9 (aZ.p B6 (aZ.p V2.atoi (aZ.p V3.indexAny (aZ.p L5.hasPrefix aZ.nil))))) ?_;rintro ⟨t,f,i⟩ ⟨(h0:0<=i),(h1:i < (t.length:Int)),(h2:t.length<=1000000)⟩;refine ⟨trivial,?_⟩;have w0:whl ⟨t,f,i,3,cs3⟩<=t.length - i.toNat:=yP;have d0:whl ⟨t,f,i,1,cs1⟩<=t.length - i.toNat:=yP;have w1:i<=uK t f i:=by unfold uK; omega
 have w2:uK t f i<=(t.length:Int):=by unfold uK; omega
 have w3:-9223372036854775808<=uK t f i - i:=by omega
 have w4:uK t f i - i<=9223372036854775807:=by omega
 have d1:i<=nZ t f i:=by unfold nZ; omega
 have d2:nZ t f i<=(t.length:Int):=by unfold nZ; omega
 have d3:-9223372036854775808<=nZ t f i - i:=by omega
 have d4:nZ t f i - i<=9223372036854775807:=by omega
 have d5:0<=nZ t f i:=by omega
 have p1:-9223372036854775808<=i+1:=by omega
 have p2:i+1<=9223372036854775807:=by omega
 have p3:0<=i+1:=by omega
 have p4:i+1<=(t.length:Int):=by omega
 have p5:-9223372036854775808<=i+2:=by omega
 have p6:i+2<=9223372036854775807:=by omega
 have p7:i<=i+2:=by omega
 have p8:i<=i+1:=by omega
 have h1':i<=(t.length:Int):=by omega
 have h3:(1:Nat)<=1000000:=by decide
 have h4:(3:Nat)<=1000000:=by decide
 have q0:(vH t i (nZ t f i)).length<=1000000:=by
  unfold vH; rw [cG,cN]; omega
 have q1:(t.drop (i+1).toNat).length<=1000000:=by rw [cN]; omega
 repeat' (first|apply aA|exact trivial|exact rfl|exact fun (j:Nat) (_:j < 256)=>rfl|exact h0)
 ·refine fun (hc:decide (atV t f i=3)=true)=>?_;have hc:=of_decide_eq_true hc;repeat' (first|apply aA|exact trivial|exact rfl|exact fun (j:Nat) (_:j < 256)=>rfl|exact h0|exact h1'|exact h2|exact h4|exact w3|exact w4)
  ·refine fun (hg:decide (24 < uK t f i - i)=true)=>?_;have hg:=of_decide_eq_true hg;have e:=eqs (show nxV t f i=(⟨0,0,0,[]⟩,0,2) by unfold nxV; rw [if_pos hc,if_pos hg]; rfl);obtain ⟨e1,e2,e3,e4,e5,e6⟩:=e;repeat' (first|apply aA|exact trivial|exact rfl|exact e1|exact e2|exact e3|exact e4|exact e5|exact e6)
  ·refine fun (hg:decide (24 < uK t f i - i)=false)=>?_;have hg:=of_decide_eq_false hg;have e:=eqs (show nxV t f i=(⟨1,i,0,vH t i (uK t f i)⟩,uK t f i,0) by unfold nxV; rw [if_pos hc,if_neg hg]);obtain ⟨e1,e2,e3,e4,e5,e6⟩:=e;repeat' (first|apply aA|exact trivial|exact rfl|exact e1|exact e2|exact e3|exact e4|exact e5|exact e6|exact h0|exact w1|exact w2)
 ·refine fun (hc:decide (atV t f i=3)=false)=>?_;have hc3:=of_decide_eq_false hc;repeat' (first|refine aA ?_ ?_)
  ·refine fun (hc:decide (atV t f i=4)=true)=>?_;have hc:=of_decide_eq_true hc;repeat' (first|apply aA|exact trivial|exact rfl|exact fun (j:Nat) (_:j < 256)=>rfl|exact h0|exact h1'|exact h2|exact h3|exact d3|exact d4|exact d5)
   ·refine fun (hg:cS (cS (decide (13 < nZ t f i - i)) _ _ _ (decide (atV t f (nZ t f i)=3))) _ _ _ (decide (atV t f (nZ t f i)=5))=true)=>?_;rw [iZ,iZ] at hg;have e:=eqs (show nxV t f i=(⟨0,0,0,[]⟩,0,4) by unfold nxV; rw [if_neg hc3,if_pos hc,if_pos hg]; rfl);obtain ⟨e1,e2,e3,e4,e5,e6⟩:=e;repeat' (first|apply aA|exact trivial|exact rfl|exact e1|exact e2|exact e3|exact e4|exact e5|exact e6)
   ·refine fun (hg:cS (cS (decide (13 < nZ t f i - i)) _ _ _ (decide (atV t f (nZ t f i)=3))) _ _ _ (decide (atV t f (nZ t f i)=5))=false)=>?_;rw [iZ,iZ] at hg;have e:=eqs (show nxV t f i=(⟨2,i,B7 (vH t i (nZ t f i)),vH t i (nZ t f i)⟩,nZ t f i,0) by unfold nxV; rw [if_neg hc3,if_pos hc,if_neg (ne_true_of_eq_false hg)]);obtain ⟨e1,e2,e3,e4,e5,e6⟩:=e;repeat' (first|apply aA|exact trivial|exact rfl|exact e1|exact e2|exact e3|exact e4|exact e5|exact e6|exact h0|exact d1|exact d2|exact q0)
  ·refine fun (hc:decide (atV t f i=4)=false)=>?_;have hc4:=of_decide_eq_false hc;repeat' (first|refine aA ?_ ?_)
   ·refine fun (hc:decide (atV t f i=6)=true)=>?_;have hc:=of_decide_eq_true hc;repeat' (first|apply aA|exact trivial|exact rfl|exact p1|exact p2|exact p3|exact p4|exact q1)
    ·exact fun (hg:decide (qAt t i < 0)=false)=>qbd (of_decide_eq_false hg)
    ·refine fun (hg:cS (decide (qAt t i < 0)) _ _ _ (decide ((((t.drop (i+1).toNat).getD (qAt t i).toNat 0).toNat:Int)=10))=true)=>?_;rw [iZ] at hg;have e:=eqs (show nxV t f i=(⟨0,0,0,[]⟩,0,6) by unfold nxV; rw [if_neg hc3,if_neg hc4,if_pos hc,if_pos hg]; rfl);obtain ⟨e1,e2,e3,e4,e5,e6⟩:=e;repeat' (first|apply aA|exact trivial|exact rfl|exact e1|exact e2|exact e3|exact e4|exact e5|exact e6)
    ·refine fun (hg:cS (decide (qAt t i < 0)) _ _ _ (decide ((((t.drop (i+1).toNat).getD (qAt t i).toNat 0).toNat:Int)=10))=false)=>?_;rw [iZ] at hg;have hq:¬ qAt t i < 0:=of_decide_eq_false (eD.1 hg).1;have hq1:=qbd hq;have hq2:0<=qAt t i/\qAt t i<=((t.drop (i+1).toNat).length:Int):=⟨hq1.1,Int.le_of_lt hq1.2⟩;have b1:-9223372036854775808<=i+qAt t i:=by have:=hq2.2; omega
     have b2:i+qAt t i<=9223372036854775807:=by have:=hq2.2; omega
     have b3:-9223372036854775808<=i+qAt t i+2:=by have:=hq2.2; omega
     have b4:i+qAt t i+2<=9223372036854775807:=by have:=hq2.2; omega
     repeat' (first|refine aA ?_ ?_)
     ·refine fun (hk:decide (400 < qAt t i)=true)=>?_;have hk:=of_decide_eq_true hk;have e:=eqs (show nxV t f i=(⟨0,0,0,[]⟩,0,2) by unfold nxV; rw [if_neg hc3,if_neg hc4,if_pos hc,if_neg (ne_true_of_eq_false hg),if_pos hk]; rfl);obtain ⟨e1,e2,e3,e4,e5,e6⟩:=e;repeat' (first|apply aA|exact trivial|exact rfl|exact e1|exact e2|exact e3|exact e4|exact e5|exact e6)
     ·refine fun (hk:decide (400 < qAt t i)=false)=>?_;have hk:=of_decide_eq_false hk;have e:=eqs (show nxV t f i=(⟨3,i,0,(t.drop (i+1).toNat).take (qAt t i).toNat⟩,i+qAt t i+2,0) by unfold nxV; rw [if_neg hc3,if_neg hc4,if_pos hc,if_neg (ne_true_of_eq_false hg),if_neg hk]);obtain ⟨e1,e2,e3,e4,e5,e6⟩:=e;repeat' (first|apply aA|exact trivial|exact rfl|exact e1|exact e2|exact e3|exact e4|exact e5|exact e6|exact hq2.1|exact hq2.2|exact b1|exact b2|exact b3|exact b4)
   ·refine fun (hc:decide (atV t f i=6)=false)=>?_;have hc6:=of_decide_eq_false hc;repeat' (first|refine aA ?_ ?_)
    ·refine fun (hc:decide (atV t f i=7)=true)=>?_;have hc7:=of_decide_eq_true hc;repeat' (first|refine aA ?_ ?_)
     rotate_left
     ·refine fun (h:decide (atV t f i=7)=false)=>?_;exact absurd hc7 (of_decide_eq_false h)
     refine fun (_:decide (atV t f i=7)=true)=>?_;repeat' (first|apply aA|exact trivial|exact rfl|exact p1|exact p2|exact p3|exact p4)
     ·refine fun (hp:Lib.hasPrefix (t.drop (i+1).toNat) [61]=true)=>?_;have hpl:=E4 hp;have p9:i+2<=(t.length:Int):=by rw [cN] at hpl; omega
      have e:=eqs (show nxV t f i=(⟨4,i,0,vH t i (i+2)⟩,i+2,0) by unfold nxV; rw [if_neg hc3,if_neg hc4,if_neg hc6,if_pos (.inl hc7),if_pos hp]);obtain ⟨e1,e2,e3,e4,e5,e6⟩:=e;repeat' (first|apply aA|exact trivial|exact rfl|exact e1|exact e2|exact e3|exact e4|exact e5|exact e6|exact p5|exact p6|exact h0|exact p7|exact p9)
     ·refine fun (hp:Lib.hasPrefix (t.drop (i+1).toNat) [61]=false)=>?_;repeat' (first|refine aA ?_ ?_)
      ·refine fun (_:decide (atV t f i=7)=true)=>?_;have e:=eqs (show nxV t f i=(⟨0,0,0,[]⟩,0,3) by unfold nxV; rw [if_neg hc3,if_neg hc4,if_neg hc6,if_pos (.inl hc7),if_neg (ne_true_of_eq_false hp),if_pos hc7]; rfl);obtain ⟨e1,e2,e3,e4,e5,e6⟩:=e;repeat' (first|apply aA|exact trivial|exact rfl|exact e1|exact e2|exact e3|exact e4|exact e5|exact e6)
      ·refine fun (h7:decide (atV t f i=7)=false)=>?_;exact absurd hc7 (of_decide_eq_false h7)
    ·refine fun (hc:decide (atV t f i=7)=false)=>?_;have hc7:=of_decide_eq_false hc;repeat' (first|refine aA ?_ ?_)
     ·refine fun (hc:decide (atV t f i=8)=true)=>?_;have hc8:=of_decide_eq_true hc;repeat' (first|apply aA|exact trivial|exact rfl|exact p1|exact p2|exact p3|exact p4)
      ·refine fun (hp:Lib.hasPrefix (t.drop (i+1).toNat) [61]=true)=>?_;have hpl:=E4 hp;have p9:i+2<=(t.length:Int):=by rw [cN] at hpl; omega
       have e:=eqs (show nxV t f i=(⟨4,i,0,vH t i (i+2)⟩,i+2,0) by unfold nxV; rw [if_neg hc3,if_neg hc4,if_neg hc6,if_pos (.inr hc8),if_pos hp]);obtain ⟨e1,e2,e3,e4,e5,e6⟩:=e;repeat' (first|apply aA|exact trivial|exact rfl|exact e1|exact e2|exact e3|exact e4|exact e5|exact e6|exact p5|exact p6|exact h0|exact p7|exact p9)
      ·refine fun (hp:Lib.hasPrefix (t.drop (i+1).toNat) [61]=false)=>?_;repeat' (first|refine aA ?_ ?_)
       ·refine fun (h7:decide (atV t f i=7)=true)=>?_;exact absurd (of_decide_eq_true h7) hc7
       ·refine fun (_:decide (atV t f i=7)=false)=>?_;have e:=eqs (show nxV t f i=(⟨4,i,0,vH t i (i+1)⟩,i+1,0) by unfold nxV; rw [if_neg hc3,if_neg hc4,if_neg hc6,if_pos (.inr hc8),if_neg (ne_true_of_eq_false hp),if_neg hc7]);obtain ⟨e1,e2,e3,e4,e5,e6⟩:=e;repeat' (first|apply aA|exact trivial|exact rfl|exact e1|exact e2|exact e3|exact e4|exact e5|exact e6|exact p1|exact p2|exact h0|exact p8|exact p4)
     refine fun (hc:decide (atV t f i=8)=false)=>?_;have hc8:=of_decide_eq_false hc;repeat' (first|refine aA ?_ ?_)
     ·refine fun (hc:decide (atV t f i=9)=true)=>?_;have hc9:=of_decide_eq_true hc;have e:=eqs (show nxV t f i=(⟨4,i,0,vH t i (i+1)⟩,i+1,0) by unfold nxV; rw [if_neg hc3,if_neg hc4,if_neg hc6,if_neg (by omega),if_pos hc9]);obtain ⟨e1,e2,e3,e4,e5,e6⟩:=e;repeat' (first|apply aA|exact trivial|exact rfl|exact e1|exact e2|exact e3|exact e4|exact e5|exact e6|exact p1|exact p2|exact h0|exact p8|exact p4)
     ·refine fun (hc:decide (atV t f i=9)=false)=>?_;have hc9:=of_decide_eq_false hc;have e:=eqs (show nxV t f i=(⟨0,0,0,[]⟩,0,3) by unfold nxV; rw [if_neg hc3,if_neg hc4,if_neg hc6,if_neg (by omega),if_neg hc9]; rfl);obtain ⟨e1,e2,e3,e4,e5,e6⟩:=e;repeat' (first|apply aA|exact trivial|exact rfl|exact e1|exact e2|exact e3|exact e4|exact e5|exact e6)
end L8
end
section
namespace EL
open Go Go.Eng
theorem Vm {k:Keep} {f:SV->SV->Prop} {s t:SV} (h:s=t) (hs:f t t):oP k f s t:=by
 subst h; exact Or.inl hs
def lay {T:Type} (g:T->SV) (d:T) (l:List T):Nat->SV:=fun i=>g (l.getD i d)
theorem Uu {T:Type} {g:T->SV} {d:T} {L M:List T} {e:Nat->SV} (he:∀ i,i < M.length->e i=g (M.getD i d)) {n:Nat} (hn:n=L.length) {N:List T} (hN:N=L++M) {j:Nat} (hj:j < L.length+M.length):kO n (fun i=>g (L.getD i d)) e j=g (N.getD j d):=by
 subst hn hN;unfold kO;by_cases h:j < L.length
 ·rw [show Nat.blt j L.length=true from cZ h,cond_true];show g (L.getD j d)=_;rw [aE,aE,aU h]
 ·have:Nat.blt j L.length=false:=by
   cases hb:Nat.blt j L.length with
   | false=>rfl
   | true=>exact absurd (aM hb) h
  rw [this,cond_false,he _ (by omega),aE,aE,bG (by omega)]
theorem Uv {T:Type} {g:T->SV} {d:T} {L:List T} {q:T} {e:Nat->SV} (he:e 0=g q) {n:Nat} (hn:n=L.length) {N:List T} (hN:N=L++[q]) {j:Nat} (hj:j < L.length+1):kO n (fun i=>g (L.getD i d)) e j=g (N.getD j d):=by
 refine Uu (M:=[q]) (fun i hi=>?_) hn hN hj;have:i=0:=by simpa using hi
 subst this;exact he
end EL
end
section
open Go Go.Eng Go.Proofs L1 L2 L3 L4 L6 L8
set_option maxRecDepth 100000
namespace L9
theorem aBr {t:List UInt8} {f:Nat->Int} (h3:f 10≠2):∀ (m:Nat) {j:Int},0<=j->j<=(t.length:Int)->j<=tl t f m j/\tl t f m j<=(t.length:Int):=by
 intro m;induction m with
 | zero=>intro j h0 h1; exact ⟨iF _,h1⟩
 | succ m ih =>
  intro j h0 h1;unfold tl;split
  ·rename_i hg;split
   ·exact ⟨h1,iF _⟩
   ·rename_i hn;have:=Wl h0 h1 h3 hg hn;have w:=M6 (f:=f) (t:=t) (j:=j+nl t j) (by omega) (by omega);have:=ih (j:=w1 t f (j+nl t j)) (by omega) (by omega);omega
  ·exact ⟨iF _,h1⟩
theorem Qx {t:List UInt8} {f:Nat->Int} (h3:f 10≠2) {j:Int} (h0:0<=j) (h1:j<=(t.length:Int)):j<=gap t f j/\gap t f j<=(t.length:Int):=by
 have w:=M6 (f:=f) h0 h1;have:=aBr (t:=t) h3 (t.length+1) (j:=w1 t f j) (by omega) w.2;unfold gap;omega
theorem M8 {t:List UInt8} {f:Nat->Int} {i:Int} {n:Nat} {cs:Nat->Int} (h0:0<=i) (h1:i < (t.length:Int)) (j:Nat) (hj:j < n) (h:cs j=atV t f i):1<=whl ⟨t,f,i,n,cs⟩:=by
 have:=Bn (t:=t) (f:=f) (i:=i) (n:=n) (cs:=cs) (k:=0) h0 (bB _);rw [dE] at this;simp only [Int.ofNat_zero,Int.add_zero,decide_eq_true h1,gS] at this;rw [show decide (∃ j,j < n/\cs j=atV t f i)=true from decide_eq_true ⟨j,hj,h⟩] at this;exact of_decide_eq_true this.symm
theorem aA7 {t:List UInt8} {f:Nat->Int} {i:Int} (h0:0<=i) (h1:i < (t.length:Int)) (h:(nxV t f i).2.2=0):i < (nxV t f i).2.1/\(nxV t f i).2.1<=(t.length:Int):=by
 have w0:whl ⟨t,f,i,3,cs3⟩<=t.length - i.toNat:=yP;have d0:whl ⟨t,f,i,1,cs1⟩<=t.length - i.toNat:=yP;unfold nxV at h ⊢;split
 ·rename_i hc;rw [if_pos hc] at h;have:=M8 (f:=f) (cs:=cs3) h0 h1 0 (by decide:0 < 3) (by rw [hc]; rfl);split
  ·rename_i hg; rw [if_pos hg] at h; exact absurd h (by decide)
  ·show i < uK t f i/\uK t f i<=_;unfold uK; omega
 ·rename_i hc;rw [if_neg hc] at h;split
  ·rename_i hc;rw [if_pos hc] at h;have:=M8 (f:=f) (cs:=cs1) h0 h1 0 (by decide:0 < 1) (by rw [hc]; rfl);split
   ·rename_i hg; rw [if_pos hg] at h; exact absurd h (by decide)
   ·show i < nZ t f i/\nZ t f i<=_;unfold nZ; omega
  ·rename_i hc;rw [if_neg hc] at h;split
   ·rename_i hc;rw [if_pos hc] at h;split
    ·rename_i hg; rw [if_pos hg] at h; exact absurd h (by decide)
    ·rename_i hg;rw [if_neg hg] at h;split
     ·rename_i hg; rw [if_pos hg] at h; exact absurd h (by decide)
     ·have hq:=qbd (t:=t) (i:=i) (of_decide_eq_false (eD.1 (iE.2 hg)).1);rw [cN] at hq;show i < i+qAt t i+2/\i+qAt t i+2<=_;omega
   ·rename_i hc;rw [if_neg hc] at h;split
    ·rename_i hc;rw [if_pos hc] at h;split
     ·rename_i hp;have hpl:=E4 hp;rw [cN] at hpl;show i < i+2/\i+2<=_;omega
     ·rename_i hp;rw [if_neg hp] at h;split
      ·rename_i hg; rw [if_pos hg] at h; exact absurd h (by decide)
      ·show i < i+1/\i+1<=_;omega
    ·rename_i hc;rw [if_neg hc] at h;split
     ·show i < i+1/\i+1<=_;omega
     ·rename_i hg; rw [if_neg hg] at h; exact absurd h (by decide)
def erV (r:NR) (n:Nat):Int:=if r.2.2=0/\n=5000 then 2 else r.2.2
def lx (t:List UInt8):Nat->Int->List Tk->List Tk×Int×Int
 | 0,_,out=>(out,0,0)
 | m+1,i,out=>if i < (t.length:Int) then
   (if erV (nxV t cls i) out.length=0 then lx t m (gap t cls (nxV t cls i).2.1) (out++[(nxV t cls i).1]) else ([],erV (nxV t cls i) out.length,i))
  else (out,0,0)
theorem Mm {t:List UInt8} {m:Nat} {i:Int} {out:List Tk}:lx t (m+1) i out=if i < (t.length:Int) then
   (if erV (nxV t cls i) out.length=0 then lx t m (gap t cls (nxV t cls i).2.1) (out++[(nxV t cls i).1]) else ([],erV (nxV t cls i) out.length,i))
  else (out,0,0):=rfl
def mH (t:List UInt8):List Tk×Int×Int:=if 20000 < t.length then ([],2,-1) else lx t (t.length+1) (gap t cls 0) []
def aCb (l:List Tk):SV:=.slice 4 l.length fun i=>tkL (l.getD i tk0)
def aA1:Eng.Spec where
 X:=List UInt8
 args:=fun t=>.cons (.str t) .nil
 pre:=fun _=>True
 res:=fun t=>.tup (.cons (aCb (mH t).1) (.cons (.int .i64 (mH t).2.1) (.cons (.int .i64 (mH t).2.2) .nil)))
 inst:=fun
  | .cons (.str t) _=>some t
  | _=>none
theorem Sz (k:Keep) (hp:List (Nat×aT)) (m:Nat) (t:Tk):sub k hp (m+6) (tkL t) (tkL t):=⟨⟨rfl,rfl⟩,⟨rfl,rfl⟩,⟨rfl,rfl⟩,rfl,trivial⟩
theorem Vp {k:Keep} {hp:List (Nat×aT)} {m:Nat} {a b:Tk} (h:a=b):sub k hp (m+6) (tkL a) (tkL b):=by subst h; exact Sz ..
def g65:List Nat:=[13,0,21,36,38,10,8,9,5,7,6,2,3,4]
def c65:bH :=
 .seq (.region g65 [(zo 2 (.move (.c (.nilsl)))),(zo 3 (.move (cj 0))),(zo 4 (.move (cj 0)))]) (.seq (.seq (.region g65 [(mv 11 0),(zo 12 (.lenStr (.s 11))),(zo 13 (.bin (.gtr) (.s 12) (cj 20000)))]) (.cond (.s 13) (.seq (.region g65 [(zo 2 (.move (.c (.nilsl)))),(zo 3 (.move (cj 2))),(zo 4 (.move (cj (-1))))]) .ret) .skip)) (.seq (.region g65 [(mv 14 0),(zo 15 (.call (.c (.fn 93)) [])),(zo 16 (.build (.cons (.str []) (.zeros .i64 256 .nil)) [(0,1,.s 14),(1,256,.s 15)])),(zo 5 (.alloc 127 (.cons (.str []) (.zeros .i64 256 .nil)))),⟨none,none,.store 257 (.s 5) (.s 16),[]⟩]) (.seq (.region g65 [(zo 6 (.move (.c (.nilsl))))]) (.seq (.seq (.region g65 [(zo 17 (.call (.c (.fn 94)) [.s 5,cj 0])),(mv 7 17)]) (.block 0 (.loop 0 [18,19,20,21,25,26,24,27,28,29,8,9,30,31,32,33,34,35,36,10,37,38,39,40,2,3,4,41,42,43,44,6,45,22,23,7] (.seq (.seq (.region g65 [(mv 18 7),(mv 19 0),(zo 20 (.lenStr (.s 19))),(zo 21 (.bin (.lss) (.s 18) (.s 20)))]) (.cond (.s 21) .skip (.exit 0))) (.seq (.block 1 (.seq (.region g65 [(mv 25 7),(zo 26 (.call (.c (.fn 95)) [.s 5,.s 25])),(mv 24 26),(zo 27 (.extract 0 (.s 24))),(zo 28 (.extract 1 (.s 24))),(zo 29 (.extract 2 (.s 24))),(zo 8 (.alloc 101 (.cons (.int .i64 0) (.cons (.int .i64 0) (.cons (.int .i64 0) (.cons (.str []) .nil)))))),⟨none,none,.store 4 (.s 8) (.s 27),[]⟩,(mv 9 28),(mv 10 29)]) (.seq (.seq (.region g65 [(mv 30 10),(zo 31 (.bin (.eql) (.s 30) (cj 0))),(mv 32 31),(mg 33 32 true 6),(zg 34 32 true (.lenSl (.s 33))),(zg 35 32 true (.bin (.eql) (.s 34) (cj 5000))),(zo 36 (.pick (.s 32) (.s 35) cF))]) (.cond (.s 36) (.region g65 [(zo 10 (.move (cj 2)))]) .skip)) (.seq (.seq (.region g65 [(mv 37 10),(zo 38 (.bin (.neq) (.s 37) (cj 0)))]) (.cond (.s 38) (.seq (.region g65 [(mv 39 10),(mv 40 7),(zo 2 (.move (.c (.nilsl)))),(mv 3 39),(mv 4 40)]) .ret) .skip)) (.seq (.region g65 [(mv 41 6),(zo 42 (.load 4 true (.s 8))),(zo 43 (.buildSl 101 4 1 (.cons (.int .i64 0) (.cons (.int .i64 0) (.cons (.int .i64 0) (.cons (.str []) .nil)))) [(0,4,.s 42)])),(zo 44 (.app 101 4 40 (.s 41) (.s 43))),(mv 6 44)]) (.region g65 [(mv 45 9),(mv 7 45)])))))) (.region g65 [(mv 22 7),(zo 23 (.call (.c (.fn 94)) [.s 5,.s 22])),(mv 7 23)])))))) (.seq (.region g65 [(mv 46 6),(mv 2 46),(zo 3 (.move (cj 0))),(zo 4 (.move (cj 0)))]) .ret)))))
theorem e65:cR Tryz.prog 65 g65 [] [] []=some (c65,[.slot 2,.slot 3,.slot 4],47):=by kernel_rfl
theorem Y1:aA1.Ok Tryz.prog 65:=by
 refine Eng.Spec.okR e65 .nil (fun _=>[(93,.p Z5),(94,.p aAn),(95,.p Wk)]) (fun _ _=>aZ.p Xo (aZ.p Ye (aZ.p U4 aZ.nil))) ?_;intro (t:List UInt8) _;have h3:cls 10≠2:=by decide
 refine ⟨trivial,?_⟩;repeat' (first|refine aA ?_ ?_)
 ·refine fun (hg:decide (20000 < (t.length:Int))=true)=>?_;have hg:=of_decide_eq_true hg;have e:mH t=([],2,-1):=if_pos (by omega);have e1:0=(mH t).1.length:=by rw [e]; rfl
  have e2:2=(mH t).2.1:=by rw [e]
  have e3:-1=(mH t).2.2:=by rw [e]
  repeat' (first|apply aA|exact trivial|exact rfl|exact e1.symm|exact e2|exact e3)
 ·refine fun (hg:decide (20000 < (t.length:Int))=false)=>?_;have hg:=of_decide_eq_false hg;have h0:t.length<=1000000:=by omega
  have e:mH t=lx t (t.length+1) (gap t cls 0) []:=if_neg (by omega);have b0:(0:Int)<=0:=by decide
  have b1:(0:Int)<=(t.length:Int):=by omega
  repeat' (first|apply aA|exact trivial|exact rfl|exact fun (j:Nat) (_:j < 256)=>rfl|exact b0|exact b1|exact h0|exact h3)
  have g0:=Qx (t:=t) h3 b0 b1;refine ⟨⟨Nat×Int×List Tk,fun x=>(0<=x.2.1/\x.2.1<=(t.length:Int))/\(t.length:Int) - x.2.1 < x.1/\x.2.2.length<=5000/\lx t x.1 x.2.1 x.2.2=mH t,
   fun x=>[(7,.int .i64 x.2.1),(6,.lsl 20 4 x.2.2.length)],fun x=>[(20,.arr 101 4 x.2.2.length fun i=>tkL (x.2.2.getD i tk0))],fun x=>x.1⟩,(t.length+1,gap t cls 0,[]),?_,?_,?_⟩
  ·exact ⟨⟨Int.le_trans b0 g0.1,g0.2⟩,by show (t.length:Int) - gap t cls 0 < ((t.length+1:Nat):Int); have:=g0.1; omega,bB _,e.symm⟩
  ·repeat' (first|apply aA|exact trivial|exact rfl|exact fun (j:Nat) (_:j < 256)=>rfl|fail)
  rintro ⟨m,j,out⟩ ⟨⟨(k0:0<=j),(k1:j<=(t.length:Int))⟩,(k2:(t.length:Int) - j < m),(k3:out.length<=5000),(k4:lx t m j out=mH t)⟩;obtain ⟨m,rfl⟩:∃ q,m=q+1:=⟨m - 1,by omega⟩;repeat' (first|refine aA ?_ ?_)
  ·refine fun (hg:decide (j < (t.length:Int))=true)=>?_;have k5:=of_decide_eq_true hg;rw [Mm,if_pos k5] at k4;repeat' (first|apply aA|exact trivial|exact rfl|exact fun (j:Nat) (_:j < 256)=>rfl|exact k0|exact k5|exact h0)
   ·refine fun (hp:cS (decide ((nxV t cls j).2.2=0)) (.s 35) cF (decide ((out.length:Int)=5000)) false=true)=>?_;rw [dE,aO,decide_eq_true_eq,decide_eq_true_eq] at hp;have e1:erV (nxV t cls j) out.length=2:=if_pos ⟨hp.1,by omega⟩;rw [e1,if_neg (by decide)] at k4;have f1:0=(mH t).1.length:=by rw [<- k4]; rfl
    have f2:2=(mH t).2.1:=by rw [<- k4]
    have f3:j=(mH t).2.2:=by rw [<- k4]
    repeat' (first|refine aA ?_ ?_)
    ·refine fun (_:(!decide ((2:Int)=0))=true)=>?_;repeat' (first|apply aA|exact trivial|exact rfl|exact f1.symm|exact f2|exact f3)
    ·exact fun (h:(!decide ((2:Int)=0))=false)=>absurd h (by decide)
   ·refine fun (hp:cS (decide ((nxV t cls j).2.2=0)) (.s 35) cF (decide ((out.length:Int)=5000)) false=false)=>?_;rw [dE] at hp;repeat' (first|refine aA ?_ ?_)
    ·refine fun (he:(!decide ((nxV t cls j).2.2=0))=true)=>?_;have he:(nxV t cls j).2.2≠0:=by simpa using he
     have e1:erV (nxV t cls j) out.length=(nxV t cls j).2.2:=if_neg fun h=>he h.1;rw [e1,if_neg he] at k4;have f1:0=(mH t).1.length:=by rw [<- k4]; rfl
     have f2:(nxV t cls j).2.2=(mH t).2.1:=by rw [<- k4]
     have f3:j=(mH t).2.2:=by rw [<- k4]
     repeat' (first|apply aA|exact trivial|exact rfl|exact f1.symm|exact f2|exact f3)
    ·refine fun (he:(!decide ((nxV t cls j).2.2=0))=false)=>?_;have he:(nxV t cls j).2.2=0:=by simpa using he
     have hn:out.length≠5000:=fun h=>by rw [he,h] at hp; exact absurd hp (by decide)
     have e1:erV (nxV t cls j) out.length=(nxV t cls j).2.2:=if_neg fun h=>hn h.2;rw [e1,if_pos he] at k4;have hb:=aA7 k0 k5 he;have c0:0<=(nxV t cls j).2.1:=by omega
     have hgb:=Qx h3 c0 hb.2;repeat' (first|apply aA|exact trivial|exact rfl|exact fun (j:Nat) (_:j < 256)=>rfl|exact c0|exact hb.2|exact h0|exact h3)
     ·show out.length+1<=9223372036854775807;omega
     ·show (out.length+1) * 40<=140737488355328;omega
     refine aB (m,gap t cls (nxV t cls j).2.1,out++[(nxV t cls j).1]) ?_;have r0:0<=gap t cls (nxV t cls j).2.1:=by omega
     have r1:(t.length:Int) - gap t cls (nxV t cls j).2.1 < (m:Int):=by omega
     have r2:(out++[(nxV t cls j).1]).length<=5000:=by rw [aV]; show out.length+1<=5000; omega
     have r3:out.length+1=(out++[(nxV t cls j).1]).length:=by rw [aV]; rfl
     repeat' (first|apply aA|exact trivial|exact rfl|exact fun (j:Nat) (_:j < 256)=>rfl|exact r0|exact hgb.2|exact r1|exact r2|exact k4|exact r3)
     ·exact fun (i:Nat) (hi:i < out.length+1)=>EL.Vm (EL.Uv (g:=tkL) (d:=tk0) (L:=out) (q:=(nxV t cls j).1) (N:=out++[(nxV t cls j).1]) rfl rfl rfl hi) (Sz ..)
     ·exact fK m
  ·refine fun (hg:decide (j < (t.length:Int))=false)=>?_;have k5:=of_decide_eq_false hg;rw [Mm,if_neg k5] at k4;have e1:out.length=(mH t).1.length:=by rw [<- k4]
   have e2:0=(mH t).2.1:=by rw [<- k4]
   have e3:0=(mH t).2.2:=by rw [<- k4]
   repeat' (first|apply aA|exact trivial|exact rfl|exact e1|exact e2|exact e3)
   ·exact fU (aW _)
   ·exact fun (i:Nat) (_:i < out.length)=>Or.inl (Vp (by rw [<- k4,aW]))
end L9
end
section
open Go Go.Eng Go.Proofs L1 L2 L3 L4 L6 L8 L9 T1 T2 T3 T4 T5 T6
set_option maxRecDepth 100000
namespace T10
def idV (t:B):Bool:=decide ((mH t).2.1=0) && decide (((mH t).1.length:Int)=1) && decide (((mH t).1.getD 0 tk0).kind=1) && decide (((mH t).1.getD 0 tk0).text=t)
def okB (b:UInt8):Bool:=!(decide (b.toNat < 32) || decide (126 < b.toNat))
def nN (t i:B):Bool:=t.all okB && (decide (t.length<=120) && idV i)
def g38:List Nat:=[0,11,25,3,5,4,1,2]
def c38:bH :=
 .seq (.region g38 [(zo 1 (.box 32 (.s 0))),(zo 2 (.move cF))]) (.seq (.seq (.region g38 [(zo 3 (.move (cj 0)))]) (.block 0 (.loop 0 [7,8,9,10,11,14,15,16,17,18,19,20,21,22,23,24,25,2,12,13,3] (.seq (.seq (.region g38 [(mv 7 3),(fa 8 0 1),(ld 9 8),(zo 10 (.lenStr (.s 9))),(zo 11 (.bin (.lss) (.s 7) (.s 10)))]) (.cond (.s 11) .skip (.exit 0))) (.seq (.block 1 (.seq (.region g38 [(fa 14 0 1),(ld 15 14),(mv 16 3),(zo 17 (.idxStr (.s 15) (.s 16))),(zo 18 (.bin (.lss) (.s 17) (.c (.int (.u8) 32)))),(mv 19 18),(fg 20 19 false 0 1),(lg 21 19 false 20),(mg 22 19 false 3),(zg 23 19 false (.idxStr (.s 21) (.s 22))),(zg 24 19 false (.bin (.gtr) (.s 23) (.c (.int (.u8) 126)))),(zo 25 (.pick (.s 19) cT (.s 24)))]) (.cond (.s 25) (.seq (.region g38 [(zo 2 (.move cF))]) .ret) .skip))) (.region g38 [(mv 12 3),(zo 13 (.bin (.add) (.s 12) (cj 1))),(mv 3 13)])))))) (.seq (.region g38 [(fa 27 1 1),(ld 28 27),(zo 29 (.call (.c (.fn 65)) [.s 28])),(mv 26 29),(zo 30 (.extract 0 (.s 26))),(zo 31 (.extract 1 (.s 26))),(zo 32 (.extract 2 (.s 26))),(mv 4 30),(mv 5 31),(mv 6 32)]) (.seq (.drawn g38 (.pure 0 (fa 33 0 1) (.pure 1 (ld 34 33) (.pure 2 (zo 35 (.lenStr (.s 34))) (.pure 3 (zo 36 (.bin (.leq) (.s 35) (cj 120))) (.pure 4 (mv 37 36) (.pure 5 (mg 38 37 true 5) (.pure 6 (zg 39 37 true (.bin (.eql) (.s 38) (cj 0))) (.pure 7 (zo 40 (.pick (.s 37) (.s 39) cF)) (.pure 8 (mv 41 40) (.pure 9 (mg 42 41 true 4) (.pure 10 (zg 43 41 true (.lenSl (.s 42))) (.pure 11 (zg 44 41 true (.bin (.eql) (.s 43) (cj 1))) (.pure 12 (zo 45 (.pick (.s 41) (.s 44) cF)) (.pure 13 (mv 46 45) (.pure 14 (mg 47 46 true 4) (.pure 15 (zg 48 46 true (.idxSl 4 (.s 47) (cj 0))) (.pure 16 (fg 49 46 true 0 48) (.pure 17 (lg 50 46 true 49) (.pure 18 (zg 51 46 true (.bin (.eql) (.s 50) (cj 1))) (.pure 19 (zo 52 (.pick (.s 46) (.s 51) cF)) (.pure 20 (mv 53 52) (.pure 21 (mg 54 53 true 4) (.pure 22 (zg 55 53 true (.idxSl 4 (.s 54) (cj 0))) (.pure 23 (fg 56 53 true 3 55) (.pure 24 (lg 57 53 true 56) (.pure 25 (fg 58 53 true 1 1) (.pure 26 (lg 59 53 true 58) (.pure 27 (zg 60 53 true (.bin (.eql) (.s 57) (.s 59))) (.pure 28 (zo 61 (.pick (.s 53) (.s 60) cF)) (.pure 29 (mv 2 61) .done))))))))))))))))))))))))))))))) .ret)))
theorem e38:cR Tryz.prog 38 g38 [] [] []=some (c38,[.slot 2],62):=by kernel_rfl
def Zr:Eng.Spec where
 X:=B×B
 args:=fun x=>.cons (.agg (Er x.1 x.2)) .nil
 pre:=fun x=>x.1.length < 4611686018427387904
 res:=fun x=>.bool (nN x.1 x.2)
 inst:=fun
  | .cons (.agg (.cons (.str t) (.cons (.str i) .nil))) _=>some (t,i)
  | _=>none
theorem S6:Zr.Ok Tryz.prog 38:=by
 refine Eng.Spec.okR e38 .nil (fun _=>[(65,.p aA1)]) (fun _ _=>aZ.p Y1 aZ.nil) ?_;rintro ⟨t,i⟩ (ht:t.length < 4611686018427387904);refine ⟨trivial,?_⟩;refine ⟨⟨Nat,fun j=>j<=t.length/\t.all okB=(t.drop j).all okB,fun j=>[(3,.int .i64 (j:Int))],fun _=>[],fun j=>t.length - j⟩,0,?_,?_,?_⟩
 ·exact ⟨bB _,rfl⟩
 ·repeat' (first|apply aA|exact trivial|exact rfl)
 rintro (j:Nat) ⟨(k0:j<=t.length),(k1:t.all okB=(t.drop j).all okB)⟩;repeat' (first|refine aA ?_ ?_)
 ·refine fun (h:decide ((j:Int) < (t.length:Int))=true)=>?_;have hj:j < t.length:=by have:=of_decide_eq_true h; omega
  have g0:(0:Int)<=(j:Int):=by omega
  have g1:(j:Int) < (t.length:Int):=by omega
  have g2:-9223372036854775808<=(j:Int)+1:=by omega
  have g3:(j:Int)+1<=9223372036854775807:=by omega
  have hd:t.drop j=t.getD j 0::t.drop (j+1):=by rw [dG hj]; simp [hj]
  have k2:t.all okB=(okB (t.getD j 0) && (t.drop (j+1)).all okB):=by rw [k1,hd]; rfl
  repeat' (first|apply aA|(with_reducible first|exact g0|exact g1))
  ·refine fun (_:decide (((t.getD j 0).toNat:Int) < 32)=false)=>?_;repeat' (first|apply aA|(with_reducible first|exact g0|exact g1))
  ·refine fun (h:cS (decide (((t.getD j 0).toNat:Int) < 32)) cT (.s 24) true (decide ((126:Int) < ((t.getD j 0).toNat:Int)))=true)=>?_;rw [iZ,fW,decide_eq_true_eq,decide_eq_true_eq] at h;have e:false=nN t i:=by
    unfold nN;rw [k2];have:okB (t.getD j 0)=false:=by
     unfold okB;rw [jD,fW,decide_eq_true_eq,decide_eq_true_eq];omega
    rw [this]; rfl
   repeat' (first|exact e)
  ·refine fun (h:cS (decide (((t.getD j 0).toNat:Int) < 32)) cT (.s 24) true (decide ((126:Int) < ((t.getD j 0).toNat:Int)))=false)=>?_;rw [iZ,eD,decide_eq_false_iff_not,decide_eq_false_iff_not] at h;have e:okB (t.getD j 0)=true:=by
    unfold okB;rw [bV,eD,decide_eq_false_iff_not,decide_eq_false_iff_not];omega
   rw [e,gS] at k2;have k3:j+1<=t.length:=hj;have k4:t.length - (j+1) < t.length - j:=by omega
   repeat' (first|apply aA|(with_reducible first|exact g2|exact g3))
   refine aB (j+1) ?_;repeat' (first|apply aA|exact trivial|exact rfl|(with_reducible first|exact k2|exact k3|exact k4))
 ·refine fun (h:decide ((j:Int) < (t.length:Int))=false)=>?_;have hj:j=t.length:=by have:=of_decide_eq_false h; omega
  have k2:t.all okB=true:=by rw [k1,hj,gM]; rfl
  have gl:∀ c:Bool,cS (cS c (.s 39) cF (decide ((mH i).2.1=0)) false) (.s 44) cF (decide (((mH i).1.length:Int)=1)) false=true->0<=(0:Int)/\(0:Int) < ((mH i).1.length:Int):=fun c h=>by
   rw [dE,aO,decide_eq_true_eq] at h;omega
  have gl2:∀ b c:Bool,cS (cS (cS c (.s 39) cF (decide ((mH i).2.1=0)) false) (.s 44) cF (decide (((mH i).1.length:Int)=1)) false) (.s 51) cF b false=true->0<=(0:Int)/\(0:Int) < ((mH i).1.length:Int):=fun b c h=>by
   rw [dE,aO] at h;exact gl _ h.1
  have e:cS (cS (cS (cS (decide ((t.length:Int)<=120)) (.s 39) cF (decide ((mH i).2.1=0)) false) (.s 44) cF (decide (((mH i).1.length:Int)=1)) false) (.s 51) cF (decide (((mH i).1.getD 0 tk0).kind=1)) false) (.s 60) cF (decide (((mH i).1.getD 0 tk0).text=i)) false=nN t i:=by
   rw [dE,dE,dE,dE];unfold nN idV;rw [k2,gS];have:decide ((t.length:Int)<=120)=decide (t.length<=120):=by rw [decide_eq_decide]; omega
   rw [this];simp only [lI]
  repeat' (first|apply aA|exact trivial|exact rfl)
  ·exact gl _
  ·exact gl2 _ _
  ·exact e
end T10
end
section
open Go Go.Eng Go.Proofs T1 T2 T3 T4 T5 T6 T10
set_option maxRecDepth 100000
namespace T11
abbrev Ky:=B×B
def k0:Ky:=([],[])
def Ep (k:Ky):SV:=Er k.1 k.2
theorem gJ (k:Keep) (hp:List (Nat×aT)) (m:Nat) (x:Ky):sub k hp (m+4) (Ep x) (Ep x):=⟨rfl,rfl,trivial⟩
def ksE (l:List Ky):SV:=.slice 2 l.length fun i=>Ep (l.getD i k0)
def pG (k:Ky):Bool:=!nN k.1 k.2
def g37:List Nat:=[0,1,2]
def c37:bH :=
 .seq (.region g37 [(zo 1 (.box 32 (.s 0))),(zo 2 (.move cF))]) (.seq (.region g37 [(zo 3 (.load 2 true (.s 1))),(zo 4 (.call (.c (.fn 38)) [.s 3])),(zo 5 (.not (.s 4))),(mv 2 5)]) .ret)
theorem e37:cR Tryz.prog 37 g37 [] [] []=some (c37,[.slot 2],6):=by kernel_rfl
def nwS:Eng.Spec where
 X:=B×B
 args:=fun x=>.cons (.agg (Er x.1 x.2)) .nil
 pre:=fun x=>x.1.length < 4611686018427387904
 res:=fun x=>.bool (pG x)
 inst:=fun
  | .cons (.agg (.cons (.str t) (.cons (.str i) .nil))) _=>some (t,i)
  | _=>none
theorem aA6:nwS.Ok Tryz.prog 37:=by
 refine Eng.Spec.okR e37 .nil (fun _=>[(38,.p Zr)]) (fun _ _=>aZ.p S6 aZ.nil) ?_;rintro ⟨t,i⟩ (ht:t.length < 4611686018427387904);refine ⟨trivial,?_⟩;repeat' (first|apply aA|exact trivial|exact rfl|exact ht)
def ixV (l:List Ky):Int:=match (List.range l.length).find? (fun i=>pG (l.getD i k0)) with
 | some i=>i
 | none=>-1
theorem aAq {l:List Ky} {k:Nat} (hk:k < l.length) (he:pG (l.getD k k0)=true) (h:∀ j,j < k->pG (l.getD j k0)=false):ixV l=k:=by
 unfold ixV;rw [dZ.2 ⟨he,by simpa using hk,fun j hj=>by rw [h j hj]; rfl⟩]
theorem aAr {l:List Ky} (h:∀ j,j < l.length->pG (l.getD j k0)=false):ixV l=-1:=by
 unfold ixV;rw [fM.2 fun j hj=>by rw [h j (by simpa using hj)]; simp]
theorem Yo {l:List Ky}:decide (ixV l>=0)=l.any pG:=by
 rw [cA,decide_eq_true_iff,List.any_eq_true];unfold ixV;split
 ·rename_i i hi;have:=dZ.1 hi;have h1:i < l.length:=by simpa using this.2.1
  refine ⟨fun _=>⟨l.getD i k0,?_,this.1⟩,fun _=>jE i⟩;rw [aE,aH h1];exact dN h1
 ·rename_i hi;have:=fM.1 hi;constructor
  ·intro h; exact absurd h (by decide)
  ·rintro ⟨x,hx,hb⟩;obtain ⟨i,h1,rfl⟩:=cU hx;exact absurd hb (by have:=this i (by simpa using h1); simpa [h1] using this)
def g64:List Nat:=[7,9,1,0,16,5,8,4]
def c64:bH :=
 .seq (.region g64 [(zo 4 (.move (cj 0)))]) (.seq (.seq (.region g64 [(mv 6 0),(zo 7 (.lenSl (.s 6))),(zo 8 (.move (cj 0)))]) (.block 0 (.loop 0 [9,10,5,11,12,13,14,15,16,17,4,18,8] (.seq (.region g64 [(zo 9 (.bin (.lss) (.s 8) (.s 7)))]) (.seq (.cond (.s 9) .skip (.exit 0)) (.seq (.block 1 (.seq (.region g64 [(mv 10 8),(mv 5 10)]) (.seq (.region g64 [(mv 11 1),(mv 12 0),(mv 13 5),(zo 14 (.idxSl 2 (.s 12) (.s 13))),(zo 15 (.load 2 true (.s 14))),(zo 16 (.call (.s 11) [.s 15]))]) (.cond (.s 16) (.seq (.region g64 [(mv 17 5),(mv 4 17)]) .ret) .skip)))) (.region g64 [(zo 18 (.bin (.add) (.s 8) (cj 1))),(mv 8 18)]))))))) (.seq (.region g64 [(zo 4 (.move (cj (-1))))]) .ret))
theorem e64:cR Tryz.prog 64 g64 [] [] []=some (c64,[.slot 4],19):=by kernel_rfl
def aAt:Eng.Spec where
 X:=List Ky
 args:=fun l=>.cons (ksE l) (.cons (.fn 37 .nil) .nil)
 pre:=fun l=>l.length < 4611686018427387904/\∀ j,j < l.length->(l.getD j k0).1.length < 4611686018427387904
 res:=fun l=>.int .i64 (ixV l)
 inst:=fun _=>none
theorem Yp:aAt.Ok Tryz.prog 64:=by
 refine Eng.Spec.okR e64 .nil (fun _=>[(37,.p nwS)]) (fun _ _=>aZ.p aA6 aZ.nil) ?_;rintro (l:List Ky) ⟨(hn:l.length < 4611686018427387904),(ht:∀ j,j < l.length->(l.getD j k0).1.length < 4611686018427387904)⟩;refine ⟨trivial,?_⟩;refine ⟨⟨Nat,fun k=>k<=l.length/\∀ j,j < k->pG (l.getD j k0)=false,fun k=>[(8,.int .i64 (k:Int))],fun _=>[],fun k=>l.length - k⟩,0,⟨bB _,fun j hj=>absurd hj (bP j)⟩,?_,?_⟩
 ·repeat' (first|apply aA|exact trivial|exact rfl|exact fun (j:Nat) (hj:j < _)=>Or.inl (gJ _ _ _ _)|fail)
 rintro (k:Nat) ⟨(hk:k<=l.length),(hf:∀ j,j < k->pG (l.getD j k0)=false)⟩;repeat' (first|refine aA ?_ ?_)
 ·refine fun (hg:decide ((k:Int) < (l.length:Int))=true)=>?_;have h1:(k:Int) < (l.length:Int):=of_decide_eq_true hg;have h0:(0:Int)<=(k:Int):=by omega
  have b1:-9223372036854775808<=(k:Int)+1:=by omega
  have b2:(k:Int)+1<=9223372036854775807:=by omega
  have hkl:k < l.length:=by omega
  have h3:=ht k hkl;repeat' (first|apply aA|exact trivial|exact rfl|(with_reducible first|exact h0|exact h1))
  ·exact h3
  ·refine fun (hv:pG (l.getD k k0)=true)=>?_;have e:(k:Int)=ixV l:=(aAq hkl hv hf).symm;repeat' (first|apply aA|exact rfl|exact e)
  ·refine fun (hv:pG (l.getD k k0)=false)=>?_;repeat' (first|apply aA|(with_reducible first|exact b1|exact b2))
   refine aB (k+1) ?_;have hkl':k+1<=l.length:=hkl;have hf':∀ j,j < k+1->pG (l.getD j k0)=false:=fun j hj=>by
    by_cases e:j=k
    ·rw [e]; exact hv
    ·exact hf j (by omega)
   have hms:l.length - (k+1) < l.length - k:=by omega
   repeat' (first|apply aA|exact trivial|exact rfl|(with_reducible first|exact hkl'|exact hf'|exact hms)|exact fun (j:Nat) (hj:j < _)=>Or.inl (gJ _ _ _ _)|fail)
 ·refine fun (hg:decide ((k:Int) < (l.length:Int))=false)=>?_;have h1:k=l.length:=by have:=of_decide_eq_false hg; omega
  subst h1;have e:-1=ixV l:=(aAr hf).symm;repeat' (first|apply aA|exact rfl|exact e)
def aAs:bU:=aAt.mof Int (fun x y=>y=ixV x) (fun _ y=>.int .i64 y)
theorem Uo:aAs.Ok Tryz.prog 64:=Eng.Spec.pR Yp fun _ _=>⟨_,rfl,rfl⟩
def g36:List Nat:=[0,1,4]
def c36:bH :=
 .seq (.region g36 [(zo 4 (.move cF))]) (.seq (.region g36 [(mv 5 0),(mv 6 1),(zo 7 (.call (.c (.fn 64)) [.s 5,.s 6])),(zo 8 (.bin (.geq) (.s 7) (cj 0))),(mv 4 8)]) .ret)
theorem e36:cR Tryz.prog 36 g36 [] [] []=some (c36,[.slot 4],9):=by kernel_rfl
def Z7:Eng.Spec where
 X:=List Ky
 args:=fun l=>.cons (ksE l) (.cons (.fn 37 .nil) .nil)
 pre:=fun l=>l.length < 4611686018427387904/\∀ j,j < l.length->(l.getD j k0).1.length < 4611686018427387904
 res:=fun l=>.bool (l.any pG)
 inst:=fun _=>none
theorem Xp:Z7.Ok Tryz.prog 36:=by
 refine Eng.Spec.okR e36 .nil (fun _=>[(64,.m aAs)]) (fun _ _=>aZ.m Uo aZ.nil) ?_;rintro (l:List Ky) ⟨(hn:l.length < 4611686018427387904),(ht:∀ j,j < l.length->(l.getD j k0).1.length < 4611686018427387904)⟩;refine ⟨trivial,?_⟩;refine aB l (aB [] ?_);repeat' (first|apply aA|exact trivial|exact rfl|exact fun (j:Nat) (hj:j < _)=>Or.inl (gJ _ _ _ _)|exact hn|exact ht)
 refine fun (y:Int) (hy:y=ixV l)=>?_;have e:decide (y>=0)=l.any pG:=by rw [hy]; exact Yo
 repeat' (first|exact e)
def Z6:bU:=Z7.mof Bool (fun x y=>y=x.any pG) (fun _ y=>.bool y)
theorem Tt:Z6.Ok Tryz.prog 36:=Eng.Spec.pR Xp fun _ _=>⟨_,rfl,rfl⟩
end T11
end
section
open Go Go.Eng Go.Proofs T1 T2 T3 T4 T5 T6 T7 T8 T9 T10 T11
set_option maxRecDepth 100000
namespace T12
theorem U7 {b:Bool} (h:(!b)=true):b=false:=by cases b <;> simp_all
theorem U6 {b:Bool} (h:(!b)=false):b=true:=by cases b <;> simp_all
def HX.has (x:HX):Bool:=uI x.N x.r x.t x.i
def yX (x:HX):Int:=bif HX.has x then 0 else 10
def nO (x:HX):Nat->NO:=bif HX.has x then jL false x.fin.N x.fin.x 0 x.i else x.N
def g14:List Nat:=[1,5,8,0,3,4]
def c14:bH :=
 .seq (.region g14 [(zo 3 (.box 32 (.s 1))),(zo 4 (.move (cj 0)))]) (.seq (.block 0 (.seq (.region g14 [(mv 6 0),(zo 7 (.ptrEq false (.s 6) (.c (.nilptr)))),(mv 5 7)]) (.cond (.s 5) (.seq (.region g14 [(zo 4 (.move (cj 1)))]) .ret) (.seq (.region g14 [(mv 9 0),(zo 10 (.load 2 true (.s 3))),(zo 11 (.call (.c (.fn 40)) [.s 9,.s 10])),(zo 12 (.not (.s 11))),(mv 8 12)]) (.cond (.s 8) (.seq (.region g14 [(zo 4 (.move (cj 10)))]) .ret) .skip))))) (.seq (.region g14 [(mv 13 0),(fa 14 0 3),(ld 15 14),(zo 16 (.mkfn 42 [.s 3])),(zo 17 (.call (.c (.fn 41)) [.s 13,.s 15,cj (-1),.s 16]))]) (.seq (.region g14 [(zo 4 (.move (cj 0)))]) .ret)))
theorem e14:cR Tryz.prog 14 g14 [] [] []=some (c14,[.slot 4],18):=by kernel_rfl
def Lo:bU where
 X:=HX
 Y:=Unit
 args:=fun x=>.cons (.own 0 0) (.cons (.agg (Er x.t x.i)) .nil)
 pre:=fun x=>x.p=false/\Cl x.N x.c/\isNode x.N x.r/\x.t.length < 4611686018427387904/\(∀ v,atN x.N x.r x.t=some v->(oV x.N v).length<=1000000)/\(HX.has x=true->chS.pre x)
 h0:=fun x=>tH 0 1 x.r x.N
 nx0:=2
 post:=fun _ _=>True
 res:=fun x _=>.int .i64 (yX x)
 h1:=fun x _=>tH 0 1 x.r (nO x)
 nx1:=2
theorem Lp:Lo.Ok Tryz.prog 14:=by
 refine Eng.bU.okR e14 .nil (fun _=>[(40,.m Yh),(41,.m chS)]) (fun _ _=>aZ.m Qz (aZ.m V0 aZ.nil)) ?_;rintro ⟨p,N,c,r,t,i⟩ ⟨(hp:p=false),(hc:Cl N c),(hr:isNode N r),(ht:t.length < 4611686018427387904),(hi:∀ v,atN N r t=some v->(oV N v).length<=1000000),(hch:HX.has (HX.mk p N c r t i)=true->chS.pre (HX.mk p N c r t i))⟩;subst hp;refine ⟨trivial,?_⟩;repeat' (first|apply aA|exact zf|refine zt ?_|fail)
 refine aB (r,N,c,t,i) (aB [0,1] ?_);repeat' (first|apply aA|exact trivial|exact rfl|exact zm N rfl|(with_reducible first|exact hc|exact hr|exact ht|exact hi))
 refine fun (y:Bool) (hy:y=uI N r t i)=>?_;subst hy;repeat' (first|refine aA ?_ ?_)
 ·refine fun (h:(!uI N r t i)=true)=>?_;have h0:HX.has (HX.mk false N c r t i)=false:=U7 h;have e1:10=yX (HX.mk false N c r t i):=by unfold yX; rw [h0]; rfl
  have e2:nO (HX.mk false N c r t i)=N:=by unfold nO; rw [h0]; rfl
  refine aB () ?_;repeat' (first|apply aA|exact trivial|exact rfl|exact e1|exact sub_eq e2 (fun i=>mO (by exact rfl) (by exact rfl) (N i))|fail)
 ·refine fun (h:(!uI N r t i)=false)=>?_;have h0:HX.has (HX.mk false N c r t i)=true:=U6 h;have e1:0=yX (HX.mk false N c r t i):=by unfold yX; rw [h0]; rfl
  have e2:∀ y,nO (HX.mk false N c r t i)=jL false (HX.mk false N c r t i).fin.N (HX.mk false N c r t i).fin.x y i:=by
   intro y;unfold nO;rw [h0];show jL false _ _ 0 i=jL false _ _ y i;unfold jL;split <;> rfl
  have hpre:=hch h0;refine aB (HX.mk false N c r t i) (aB [0,1,2] ?_);repeat' (first|exact hpre|apply aA|exact trivial|exact rfl|exact zr N rfl rfl|fail)
  refine fun (y:Nat) _=>?_;refine aB () ?_;repeat' (first|apply aA|exact trivial|exact rfl|exact e1|exact sub_eq (e2 y) (fun i=>mO (by exact rfl) (by exact rfl) _)|fail)
def rC (x:HX):Int:=bif nN x.t x.i then (bif HX.has x then 8 else bif decide (20000<=szN x.N x.r) then 22 else 0) else 1
def HX.puts (x:HX):Bool:=nN x.t x.i && (!HX.has x && !decide (20000<=szN x.N x.r))
def sL (x:HX) (y:Nat):Nat->NO:=bif HX.puts x then jL true x.fin.N x.fin.x y x.i else x.N
def g15:List Nat:=[1,5,13,17,0,3,4]
def c15:bH :=
 .seq (.region g15 [(zo 3 (.box 32 (.s 1))),(zo 4 (.move (cj 0)))]) (.seq (.block 0 (.seq (.region g15 [(mv 6 0),(zo 7 (.ptrEq false (.s 6) (.c (.nilptr)))),(mv 8 7),(zg 9 8 false (.load 2 true (.s 3))),(zg 10 8 false (.call (.c (.fn 38)) [.s 9])),(zg 11 8 false (.not (.s 10))),(zo 12 (.pick (.s 8) cT (.s 11))),(mv 5 12)]) (.cond (.s 5) (.seq (.region g15 [(zo 4 (.move (cj 1)))]) .ret) (.seq (.region g15 [(mv 14 0),(zo 15 (.load 2 true (.s 3))),(zo 16 (.call (.c (.fn 40)) [.s 14,.s 15])),(mv 13 16)]) (.cond (.s 13) (.seq (.region g15 [(zo 4 (.move (cj 8)))]) .ret) (.seq (.region g15 [(mv 18 0),(zo 19 (.nilCheck (.s 18))),(fa 20 0 19),(ld 21 20),(zo 22 (.nilCheck (.s 21))),(fa 23 2 22),(ld 24 23),(zo 25 (.bin (.geq) (.s 24) (cj 20000))),(mv 17 25)]) (.cond (.s 17) (.seq (.region g15 [(zo 4 (.move (cj 22)))]) .ret) .skip))))))) (.seq (.region g15 [(mv 26 0),(fa 27 0 3),(ld 28 27),(zo 29 (.mkfn 45 [.s 3])),(zo 30 (.call (.c (.fn 41)) [.s 26,.s 28,cj 1,.s 29]))]) (.seq (.region g15 [(zo 4 (.move (cj 0)))]) .ret)))
theorem e15:cR Tryz.prog 15 g15 [] [] []=some (c15,[.slot 4],31):=by kernel_rfl
def R5:bU where
 X:=HX
 Y:=Nat
 args:=fun x=>.cons (.own 0 0) (.cons (.agg (Er x.t x.i)) .nil)
 pre:=fun x=>x.p=true/\Cl x.N x.c/\isNode x.N x.r/\x.t.length < 4611686018427387904/\(∀ v,atN x.N x.r x.t=some v->(oV x.N v).length<=1000000)/\(HX.puts x=true->chS.pre x)
 h0:=fun x=>tH 0 1 x.r x.N
 nx0:=2
 post:=fun x y=>HX.puts x=true->chS.post x y
 res:=fun x _=>.int .i64 (rC x)
 h1:=fun x y=>tH 0 1 x.r (sL x y)
 nx1:=2
theorem Kg:R5.Ok Tryz.prog 15:=by
 refine Eng.bU.okR e15 .nil (fun _=>[(38,.p Zr),(40,.m Yh),(41,.m chS)]) (fun _ _=>aZ.p S6 (aZ.m Qz (aZ.m V0 aZ.nil))) ?_;rintro ⟨p,N,c,r,t,i⟩ ⟨(hp:p=true),(hc:Cl N c),(hr:isNode N r),(ht:t.length < 4611686018427387904),(hi:∀ v,atN N r t=some v->(oV N v).length<=1000000),(hch:HX.puts (HX.mk p N c r t i)=true->chS.pre (HX.mk p N c r t i))⟩;subst hp;obtain ⟨a,n,m,sz,mk,hrn⟩:=hr;have hr:isNode N r:=⟨a,n,m,sz,mk,hrn⟩;have hsz:szN N r=sz:=H8 hrn;refine ⟨trivial,?_⟩;repeat' (first|apply aA|exact trivial|exact rfl|refine zt ?_|exact ht)
 ·refine fun (h:cS false cT (.s 11) true (!nN t i)=true)=>?_;rw [iZ,iX] at h;have hv:nN t i=false:=U7 h;have e1:1=rC (HX.mk true N c r t i):=by unfold rC; simp only [hv,cond_false]
  have e0:HX.puts (HX.mk true N c r t i)=false:=by unfold HX.puts; simp only [hv,Bool.false_and]
  have e2:∀ y,sL (HX.mk true N c r t i) y=N:=fun y=>by unfold sL; rw [e0]; rfl
  have e3:HX.puts (HX.mk true N c r t i)=true->chS.post (HX.mk true N c r t i) (0:Nat):=fun h=>by rw [e0] at h; cases h
  refine aB (0:Nat) ?_;repeat' (first|exact e3|apply aA|exact trivial|exact rfl|exact e1|exact sub_eq (e2 _) (fun i=>nB (by exact rfl) (N i))|fail)
 ·refine fun (h:cS false cT (.s 11) true (!nN t i)=false)=>?_;rw [iZ,iX] at h;have hv:nN t i=true:=U6 h;refine aB (r,N,c,t,i) (aB [0,1] ?_);repeat' (first|apply aA|exact trivial|exact rfl|exact zm N rfl|(with_reducible first|exact hc|exact hr|exact ht|exact hi))
  refine fun (y:Bool) (hy:y=uI N r t i)=>?_;subst hy;repeat' (first|refine aA ?_ ?_)
  ·refine fun (h:uI N r t i=true)=>?_;have e1:8=rC (HX.mk true N c r t i):=by unfold rC HX.has; simp only [hv,h,cond_true]
   have e0:HX.puts (HX.mk true N c r t i)=false:=by unfold HX.puts HX.has; simp only [hv,h,Bool.not_true,Bool.false_and,lJ]
   have e2:∀ y,sL (HX.mk true N c r t i) y=N:=fun y=>by unfold sL; rw [e0]; rfl
   have e3:HX.puts (HX.mk true N c r t i)=true->chS.post (HX.mk true N c r t i) (0:Nat):=fun h=>by rw [e0] at h; cases h
   refine aB (0:Nat) ?_;repeat' (first|exact e3|apply aA|exact trivial|exact rfl|exact e1|exact sub_eq (e2 _) (fun i=>mO (by exact rfl) (by exact rfl) (N i))|fail)
  ·refine fun (h:uI N r t i=false)=>?_;refine aB (rnO [(0,0),(1,1)] [(0,0),(1,1)] (noO 1 (.node a n m sz mk))) (aA (congrArg (fun o=>rnO [(0,0),(1,1)] [(0,0),(1,1)] (noO 1 o)) hrn) ?_);repeat' (first|refine aA ?_ ?_)
   ·refine fun (h3:decide (sz>=20000)=true)=>?_;have h4:decide (20000<=szN N r)=true:=by rw [hsz]; exact h3
    have e1:22=rC (HX.mk true N c r t i):=by unfold rC HX.has; simp only [hv,h,h4,cond_true,cond_false]
    have e0:HX.puts (HX.mk true N c r t i)=false:=by unfold HX.puts HX.has; simp only [hv,h,h4,Bool.not_true,lJ]
    have e2:∀ y,sL (HX.mk true N c r t i) y=N:=fun y=>by unfold sL; rw [e0]; rfl
    have e3:HX.puts (HX.mk true N c r t i)=true->chS.post (HX.mk true N c r t i) (0:Nat):=fun h=>by rw [e0] at h; cases h
    refine aB (0:Nat) ?_;repeat' (first|exact e3|apply aA|exact trivial|exact rfl|exact e1|exact sub_eq (e2 _) (fun i=>mO (by exact rfl) (by exact rfl) (N i))|fail)
   ·refine fun (h3:decide (sz>=20000)=false)=>?_;have h4:decide (20000<=szN N r)=false:=by rw [hsz]; exact h3
    have e1:0=rC (HX.mk true N c r t i):=by unfold rC HX.has; simp only [hv,h,h4,cond_true,cond_false]
    have e0:HX.puts (HX.mk true N c r t i)=true:=by unfold HX.puts HX.has; simp only [hv,h,h4,Bool.not_false,kL]
    have e2:∀ y,sL (HX.mk true N c r t i) y=jL true (HX.mk true N c r t i).fin.N (HX.mk true N c r t i).fin.x y i:=fun y=>by unfold sL; rw [e0]; rfl
    have hpre:=hch e0;refine aB (HX.mk true N c r t i) (aB [0,1,2] ?_);repeat' (first|exact hpre|apply aA|exact trivial|exact rfl|exact zr N rfl rfl|fail)
    refine fun (y:Nat) (hy:chS.post (HX.mk true N c r t i) y)=>?_;have e3:HX.puts (HX.mk true N c r t i)=true->chS.post (HX.mk true N c r t i) y:=fun _=>hy;refine aB y ?_;repeat' (first|exact e3|apply aA|exact trivial|exact rfl|exact e1|exact sub_eq (e2 y) (fun i=>mO (by exact rfl) (by exact rfl) _)|fail)
end T12
end
