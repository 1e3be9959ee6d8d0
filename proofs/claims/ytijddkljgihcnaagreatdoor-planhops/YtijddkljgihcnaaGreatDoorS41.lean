/- A part of the proof. -/
import Derived.Test.YtijddkljgihcnaaGreatDoorS40
import Derived.Test.YtijddkljgihcnaaGreatDoorS37
open Go Go.Eng Go.Proofs G7 G4 L3 L10 G1 G3 EV0 B1 B2 S1 S2 S3 S4 S5 S6 S7 S9 PL PL2 S36 S37 S39 S40
set_option maxRecDepth 100000
namespace S41
def g4:List Nat:=[34,1,2,3,12,14,16,18,20,92,9,15,10,11,0,13,17,19,8]
def c4:aH :=
 .seq (.region g4 [(zo 8 (.move cF))]) (.seq (.region g4 [(zo 21 (.call (.c (.fn 9)) [])),(mv 9 21)]) (.seq (.seq (.region g4 [(mv 22 0),(zo 23 (.call (.c (.fn 10)) [.s 22])),(zo 24 (.not (.s 23))),(mv 25 24),(mg 26 25 false 0),(zg 27 25 false (.call (.c (.fn 20)) [.s 26])),(zg 28 25 false (.not (.s 27))),(zo 29 (.pick (.s 25) cT (.s 28))),(mv 30 29),(mg 31 30 false 0),(zg 32 30 false (.lenSl (.s 31))),(zg 33 30 false (.bin (.eql) (.s 32) (cj 0))),(zo 34 (.pick (.s 30) cT (.s 33)))]) (.cond (.s 34) (.seq (.region g4 [(mv 35 9),(mv 8 35)]) .ret) .skip)) (.seq (.drawn g4 (.pure 0 (mv 36 1) (.pure 1 (zo 37 (.cnv .i64 (.s 36))) (.pure 2 (mv 38 0) (.pure 3 (zo 39 (.lenSl (.s 38))) (.pure 4 (zo 40 (.bin (.rem) (.s 37) (.s 39))) (.pure 5 (mv 41 2) (.pure 6 (zo 42 (.cnv .i64 (.s 41))) (.pure 7 (mv 43 0) (.pure 8 (zo 44 (.lenSl (.s 43))) (.pure 9 (zo 45 (.bin (.rem) (.s 42) (.s 44))) (.pure 10 (mv 46 3) (.pure 11 (zo 47 (.cnv .i64 (.s 46))) (.pure 12 (mv 48 0) (.pure 13 (zo 49 (.lenSl (.s 48))) (.pure 14 (zo 50 (.bin (.rem) (.s 47) (.s 49))) (.pure 15 (mv 10 40) (.pure 16 (mv 11 45) (.pure 17 (mv 12 50) .done))))))))))))))))))) (.seq (.region g4 [(mv 52 0),(mv 53 10),(mv 54 11),(zo 55 (.call (.c (.fn 12)) [.s 52,.s 53,.s 54])),(mv 51 55),(zo 56 (.extract 0 (.s 51))),(zo 57 (.extract 1 (.s 51))),(mv 13 56),(mv 14 57)]) (.seq (.region g4 [(mv 59 0),(mv 60 11),(mv 61 10),(zo 62 (.call (.c (.fn 12)) [.s 59,.s 60,.s 61])),(mv 58 62),(zo 63 (.extract 0 (.s 58))),(zo 64 (.extract 1 (.s 58))),(mv 15 63),(mv 16 64)]) (.seq (.region g4 [(mv 66 0),(mv 67 10),(mv 68 12),(zo 69 (.call (.c (.fn 12)) [.s 66,.s 67,.s 68])),(mv 65 69),(zo 70 (.extract 0 (.s 65))),(zo 71 (.extract 1 (.s 65))),(mv 17 70),(mv 18 71)]) (.seq (.region g4 [(mv 73 0),(mv 74 12),(mv 75 11),(zo 76 (.call (.c (.fn 12)) [.s 73,.s 74,.s 75])),(mv 72 76),(zo 77 (.extract 0 (.s 72))),(zo 78 (.extract 1 (.s 72))),(mv 19 77),(mv 20 78)]) (.seq (.seq (.region g4 [(mv 79 14),(zo 80 (.bin (.neq) (.s 79) (cj 0))),(mv 81 80),(mg 82 81 false 16),(zg 83 81 false (.bin (.neq) (.s 82) (cj 0))),(zo 84 (.pick (.s 81) cT (.s 83))),(mv 85 84),(mg 86 85 false 18),(zg 87 85 false (.bin (.neq) (.s 86) (cj 0))),(zo 88 (.pick (.s 85) cT (.s 87))),(mv 89 88),(mg 90 89 false 20),(zg 91 89 false (.bin (.neq) (.s 90) (cj 0))),(zo 92 (.pick (.s 89) cT (.s 91)))]) (.cond (.s 92) (.seq (.region g4 [(zo 8 (.move cF))]) .ret) .skip)) (.seq (.region g4 [(mv 93 9),(mv 94 93),(mg 95 94 true 13),(mg 96 94 true 15),(zg 97 94 true (.bin (.eql) (.s 95) (.s 96))),(zo 98 (.pick (.s 94) (.s 97) cF)),(mv 99 98),(mg 100 99 true 13),(zg 101 99 true (.bin (.eql) (.s 100) (cj 0))),(mg 102 99 true 10),(mg 103 99 true 11),(zg 104 99 true (.bin (.eql) (.s 102) (.s 103))),(zg 105 99 true (.eqB false (.s 101) (.s 104))),(zo 106 (.pick (.s 99) (.s 105) cF)),(mv 107 106),(mg 108 107 true 13),(zg 109 107 true (.bin (.eql) (.s 108) (cj 1))),(mg 110 107 true 0),(mg 111 107 true 10),(zg 112 107 true (.idxSl 2 (.s 110) (.s 111))),(fg 113 107 true 0 112),(lg 114 107 true 113),(mg 115 107 true 11),(zg 116 107 true (.call (.c (.fn 22)) [.s 114,.s 115])),(zg 117 107 true (.eqB false (.s 109) (.s 116))),(zo 118 (.pick (.s 107) (.s 117) cF)),(mv 119 118),(mg 120 119 true 13),(zg 121 119 true (.bin (.geq) (.s 120) (cj 0))),(zo 122 (.pick (.s 119) (.s 121) cF)),(mv 123 122),(mg 124 123 true 13),(mg 125 123 true 0),(zg 126 123 true (.lenSl (.s 125))),(zg 127 123 true (.bin (.lss) (.s 124) (.s 126))),(zo 128 (.pick (.s 123) (.s 127) cF)),(mv 129 128),(mg 130 129 true 13),(mg 131 129 true 17),(mg 132 129 true 19),(zg 133 129 true (.bin (.add) (.s 131) (.s 132))),(zg 134 129 true (.bin (.leq) (.s 130) (.s 133))),(zo 135 (.pick (.s 129) (.s 134) cF)),(mv 8 135)]) .ret)))))))))
def r4:List fH:=[.slot 8]
def k4:List (Nat×Nat×aH×Nat):=[]
theorem e4:aI Tryz.prog 4 g4 [] [] k4=some (c4,r4,136):=by kernel_rfl
theorem q4:eU Tryz.prog k4:=eU.nil
attribute [local irreducible] jY vdV eG dD
def Ta:Eng.Spec where
 X:=Sq Of×Int×Int×Int
 args:=fun (l,a,b,c)=>.cons (ofE l) (.cons (.int .u8 a) (.cons (.int .u8 b) (.cons (.int .u8 c) .nil)))
 pre:=fun x=>bgO x.1/\((0<=x.2.1/\x.2.1<=255)/\(0<=x.2.2.1/\x.2.2.1<=255)/\0<=x.2.2.2/\x.2.2.2<=255)
 res:=fun _=>.bool true
 inst:=fun _=>none
set_option maxHeartbeats 4000000 in
theorem Li:Ta.Ok Tryz.prog 4:=by
 refine Eng.Spec.okR e4 q4 (fun _=>[(9,.p Na),(10,.p Sn),(20,.p vdS),(12,.p K6),(22,.p inS)]) (fun _ _=>aA.p K5 (aA.p O8 (aA.p zR (aA.p He (aA.p Sx aA.nil))))) ?_
 rintro ⟨l,m1,m2,m3⟩ ⟨(hb:bgO l),⟨⟨(a0:0<=m1),(a1:m1<=255)⟩,⟨(b0:0<=m2),(b1:m2<=255)⟩,(c0:0<=m3),(c1:m3<=255)⟩⟩
 refine ⟨trivial,?_⟩
 have e1:∀ a b:Nat,aE (aE (!jY l) cT (.s a) true (!vdV l)) cT (.s b) true (decide ((l.n:Int)=0))=(!(jY l && vdV l) || decide ((l.n:Int)=0)):=fun a b=>by rw [aF,aF,Bool.not_and]
 repeat' (first|exact hb|refine fun hg=>And.intro (Gv hb hg) ?_|apply And.intro|exact trivial|exact rfl|exact lz fun _=>rfl|exact S1.zz rfl|refine gd ?_)
 ·refine fun _=>?_
  repeat' (first|apply And.intro|exact trivial|exact rfl|exact lz fun _=>rfl|exact S1.zz rfl|refine gd ?_)
 refine fun (hc0:aE _ cT (.s 33) true _=false)=>?_
 have hc:=(e1 28 33).symm.trans hc0
 rw [Bool.or_eq_false_iff,Bool.not_eq_false',Bool.and_eq_true,decide_eq_false_iff_not] at hc
 obtain ⟨⟨hf,hv⟩,hn0⟩:=hc
 clear hc0 e1
 have hn:l.n≠0:=by omega
 have hpre:=C5 hf hb
 have i1:=Pw (l:=l) a0 hn
 have i2:=Pw (l:=l) b0 hn
 have i3:=Pw (l:=l) c0 hn
 have w1:-9223372036854775808<=m1:=by show -9223372036854775808<=m1; omega
 have w2:m1<=9223372036854775807:=by show m1<=9223372036854775807; omega
 have w3:-9223372036854775808<=m2:=by show -9223372036854775808<=m2; omega
 have w4:m2<=9223372036854775807:=by show m2<=9223372036854775807; omega
 have w5:-9223372036854775808<=m3:=by show -9223372036854775808<=m3; omega
 have w6:m3<=9223372036854775807:=by show m3<=9223372036854775807; omega
 repeat' (first|with_reducible exact w1|with_reducible exact w2|with_reducible exact w3|with_reducible exact w4|with_reducible exact w5|with_reducible exact w6|exact hpre.1|exact hpre.2|exact hn0|apply And.intro|exact trivial|exact rfl|exact lz fun _=>rfl|exact S1.zz rfl|refine gd ?_)
 ·refine fun (hc0:aE _ cT (.s 91) true _=true)=>Bool.noConfusion (hc0.symm.trans (Bz (Bz (Bz (okI hv i1 i2) (okI hv i2 i1)) (okI hv i1 i3)) (okI hv i3 i2)))
 refine fun _=>?_
 have p12:=Qo hv i1 i2
 have p13:=Qo hv i1 i3
 have p32:=Qo hv i3 i2
 have q1:=i1.lo
 have q2:=i1.hi
 have q3:(l.f (Int.tmod m1 (l.n:Int)).toNat).links.n<=1000000:=by
  obtain ⟨k,hk,hk2⟩:=i1.nat
  rw [hk]
  exact (hpre.2 (by have:=(pM.1 hv).n64; exact this)).ln k hk2
 have q4:-9223372036854775808<=eG l (Int.tmod m1 (l.n:Int)) (Int.tmod m3 (l.n:Int))+eG l (Int.tmod m3 (l.n:Int)) (Int.tmod m2 (l.n:Int)):=by omega
 have q5:eG l (Int.tmod m1 (l.n:Int)) (Int.tmod m3 (l.n:Int))+eG l (Int.tmod m3 (l.n:Int)) (Int.tmod m2 (l.n:Int))<=9223372036854775807:=by
  have:=hpre.1
  omega
 have t1:=decide_eq_true (Vl hv i1 i2)
 have t2:=decide_eq_true (U1 hv i1 i2)
 have t3:=decide_eq_true (Vc hv i1 i2)
 have t4:=decide_eq_true p12.1
 have t5:=decide_eq_true p12.2
 have t6:=decide_eq_true (Vn hv i1 i2 i3)
 have tt:=fun (a b c d e f:Nat)=>oZ (k:=f) (oZ (k:=e) (oZ (k:=d) (oZ (k:=c) (oZ (k:=b) (oZ (k:=a) rfl t1) t2) t3) t4) t5) t6
 repeat' (first|with_reducible exact q1|with_reducible exact q2|exact q3|with_reducible exact q4|with_reducible exact q5|exact tt _ _ _ _ _ _|apply And.intro|exact trivial|exact rfl|exact lz fun _=>rfl|exact S1.zz rfl|refine gd ?_)
 ·exact q4
 ·exact q5
end S41
