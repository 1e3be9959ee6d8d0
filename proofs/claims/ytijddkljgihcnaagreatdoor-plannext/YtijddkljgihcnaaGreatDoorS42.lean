/- A part of the proof. -/
import Derived.Test.YtijddkljgihcnaaGreatDoorS46
import Derived.Test.YtijddkljgihcnaaGreatDoorS40
import Derived.Test.YtijddkljgihcnaaGreatDoorS37
open Go Go.Eng Go.Proofs G7 G4 L3 L10 G1 G3 EV0 B1 B2 S1 S2 S3 S4 S5 S6 S7 S9 PL PL2 S39 S37 S40 S46
set_option maxRecDepth 100000
namespace S42
attribute [local irreducible] dst
noncomputable def Vs (l:Sq Of) (a b:Int):Int×Int:=(if dD l a b=true then if a=b then 0 else Bs l a b else 0,if dD l a b=true then if a=b then 11 else 0 else 1)
noncomputable def Wb:Eng.bX:=T7.mof (Int×Int) (fun x y=>y=Vs x.1 x.2.1 x.2.2) (fun _ y=>.tup (.cons (.int .i64 y.1) (.cons (.int .i64 y.2) .nil)))
theorem V6:Wb.Ok Tryz.prog 14:=Eng.Spec.Bm Qc fun x _=>⟨Vs x.1 x.2.1 x.2.2,rfl,rfl⟩
theorem V7 {l:Sq Of} (h:vdV l=true) {a b:Nat} (ha:a < l.n) (hb:b < l.n) (hab:a≠b):Vs l (a:Int) (b:Int)=(Bs l (a:Int) (b:Int),0):=by
 have:¬ (a:Int)=(b:Int):=by omega
 unfold Vs
 rw [if_pos (wB h ha hb),if_pos (wB h ha hb),if_neg this,if_neg this]
theorem Vv {l:Sq Of} (h:vdV l=true) {b:Nat} (hb:b < l.n):Vs l (b:Int) (b:Int)=(0,11):=by
 unfold Vs
 rw [if_pos (wB h hb hb),if_pos (wB h hb hb),if_pos rfl,if_pos rfl]
def g5:List Nat:=[34,1,2,11,54,8,10,58,15,89,109,18,17,144,16,14,13,0,7,12,9,20,6]
def c5:aH :=
 .seq (.region g5 [(zo 6 (.move cF))]) (.seq (.region g5 [(zo 21 (.call (.c (.fn 9)) [])),(mv 7 21)]) (.seq (.seq (.region g5 [(mv 22 0),(zo 23 (.call (.c (.fn 10)) [.s 22])),(zo 24 (.not (.s 23))),(mv 25 24),(mg 26 25 false 0),(zg 27 25 false (.call (.c (.fn 20)) [.s 26])),(zg 28 25 false (.not (.s 27))),(zo 29 (.pick (.s 25) cT (.s 28))),(mv 30 29),(mg 31 30 false 0),(zg 32 30 false (.lenSl (.s 31))),(zg 33 30 false (.bin (.eql) (.s 32) (cj 0))),(zo 34 (.pick (.s 30) cT (.s 33)))]) (.cond (.s 34) (.seq (.region g5 [(mv 35 7),(mv 6 35)]) .ret) .skip)) (.seq (.drawn g5 (.pure 0 (mv 36 1) (.pure 1 (zo 37 (.cnv .i64 (.s 36))) (.pure 2 (mv 38 0) (.pure 3 (zo 39 (.lenSl (.s 38))) (.pure 4 (zo 40 (.bin (.rem) (.s 37) (.s 39))) (.pure 5 (mv 41 2) (.pure 6 (zo 42 (.cnv .i64 (.s 41))) (.pure 7 (mv 43 0) (.pure 8 (zo 44 (.lenSl (.s 43))) (.pure 9 (zo 45 (.bin (.rem) (.s 42) (.s 44))) (.pure 10 (mv 8 40) (.pure 11 (mv 9 45) .done))))))))))))) (.seq (.region g5 [(mv 47 0),(mv 48 8),(mv 49 9),(zo 50 (.call (.c (.fn 12)) [.s 47,.s 48,.s 49])),(mv 46 50),(zo 51 (.extract 0 (.s 46))),(zo 52 (.extract 1 (.s 46))),(mv 10 51),(mv 11 52)]) (.seq (.seq (.region g5 [(mv 53 11),(zo 54 (.bin (.neq) (.s 53) (cj 0)))]) (.cond (.s 54) (.seq (.region g5 [(zo 6 (.move cF))]) .ret) .skip)) (.seq (.region g5 [(mv 55 8),(mv 12 55)]) (.seq (.seq (.region g5 [(mv 56 10),(mv 13 56)]) (.block 0 (.loop 0 [57,58,62,63,64,65,61,66,67,14,15,68,69,70,71,72,73,74,75,76,77,78,79,80,81,82,83,84,85,86,87,88,89,90,91,92,93,94,95,96,97,98,99,100,101,102,103,104,105,106,107,108,109,113,114,115,116,117,118,119,120,121,122,123,112,124,125,17,18,126,127,128,129,130,131,132,133,134,135,136,137,138,139,140,141,142,143,144,6,110,111,16,145,12,59,60,13] (.seq (.seq (.region g5 [(mv 57 13),(zo 58 (.bin (.gtr) (.s 57) (cj 0)))]) (.cond (.s 58) .skip (.exit 0))) (.seq (.block 1 (.seq (.region g5 [(mv 62 0),(mv 63 12),(mv 64 9),(zo 65 (.call (.c (.fn 14)) [.s 62,.s 63,.s 64])),(mv 61 65),(zo 66 (.extract 0 (.s 61))),(zo 67 (.extract 1 (.s 61))),(mv 14 66),(mv 15 67)]) (.seq (.seq (.region g5 [(mv 68 15),(zo 69 (.bin (.neq) (.s 68) (cj 0))),(mv 70 69),(mg 71 70 false 14),(zg 72 70 false (.bin (.lss) (.s 71) (cj 0))),(zo 73 (.pick (.s 70) cT (.s 72))),(mv 74 73),(mg 75 74 false 14),(mg 76 74 false 0),(zg 77 74 false (.lenSl (.s 76))),(zg 78 74 false (.bin (.geq) (.s 75) (.s 77))),(zo 79 (.pick (.s 74) cT (.s 78))),(mv 80 79),(mg 81 80 false 0),(mg 82 80 false 12),(zg 83 80 false (.idxSl 2 (.s 81) (.s 82))),(fg 84 80 false 0 83),(lg 85 80 false 84),(mg 86 80 false 14),(zg 87 80 false (.call (.c (.fn 22)) [.s 85,.s 86])),(zg 88 80 false (.not (.s 87))),(zo 89 (.pick (.s 80) cT (.s 88)))]) (.cond (.s 89) (.seq (.region g5 [(zo 6 (.move cF))]) .ret) .skip)) (.seq (.seq (.region g5 [(zo 16 (.move (cj 0)))]) (.block 2 (.loop 1 [90,91,92,93,94,95,96,97,98,99,100,101,102,103,104,105,106,107,108,109,113,114,115,116,117,118,119,120,121,122,123,112,124,125,17,18,126,127,128,129,130,131,132,133,134,135,136,137,138,139,140,141,142,143,144,6,110,111,16] (.seq (.seq (.region g5 [(mv 90 16),(mv 91 0),(mv 92 12),(zo 93 (.idxSl 2 (.s 91) (.s 92))),(fa 94 0 93),(ld 95 94),(zo 96 (.lenSl (.s 95))),(zo 97 (.bin (.lss) (.s 90) (.s 96))),(mv 98 97),(mg 99 98 true 0),(mg 100 98 true 12),(zg 101 98 true (.idxSl 2 (.s 99) (.s 100))),(fg 102 98 true 0 101),(lg 103 98 true 102),(mg 104 98 true 16),(zg 105 98 true (.idxSl 1 (.s 103) (.s 104))),(lg 106 98 true 105),(mg 107 98 true 14),(zg 108 98 true (.bin (.leq) (.s 106) (.s 107))),(zo 109 (.pick (.s 98) (.s 108) cF))]) (.cond (.s 109) .skip (.exit 2))) (.seq (.block 3 (.seq (.region g5 [(mv 113 0),(mv 114 0),(mv 115 12),(zo 116 (.idxSl 2 (.s 114) (.s 115))),(fa 117 0 116),(ld 118 117),(mv 119 16),(zo 120 (.idxSl 1 (.s 118) (.s 119))),(ld 121 120),(mv 122 9),(zo 123 (.call (.c (.fn 12)) [.s 113,.s 121,.s 122])),(mv 112 123),(zo 124 (.extract 0 (.s 112))),(zo 125 (.extract 1 (.s 112))),(mv 17 124),(mv 18 125)]) (.seq (.region g5 [(mv 126 18),(zo 127 (.bin (.neq) (.s 126) (cj 0))),(mv 128 127),(mg 129 128 false 17),(mg 130 128 false 13),(zg 131 128 false (.bin (.sub) (.s 130) (cj 1))),(zg 132 128 false (.bin (.eql) (.s 129) (.s 131))),(mg 133 128 false 0),(mg 134 128 false 12),(zg 135 128 false (.idxSl 2 (.s 133) (.s 134))),(fg 136 128 false 0 135),(lg 137 128 false 136),(mg 138 128 false 16),(zg 139 128 false (.idxSl 1 (.s 137) (.s 138))),(lg 140 128 false 139),(mg 141 128 false 14),(zg 142 128 false (.bin (.eql) (.s 140) (.s 141))),(zg 143 128 false (.eqB true (.s 132) (.s 142))),(zo 144 (.pick (.s 128) cT (.s 143)))]) (.cond (.s 144) (.seq (.region g5 [(zo 6 (.move cF))]) .ret) .skip)))) (.region g5 [(mv 110 16),(zo 111 (.bin (.add) (.s 110) (cj 1))),(mv 16 111)])))))) (.region g5 [(mv 145 14),(mv 12 145)]))))) (.region g5 [(mv 59 13),(zo 60 (.bin (.sub) (.s 59) (cj 1))),(mv 13 60)])))))) (.seq (.region g5 [(mv 147 0),(mv 148 9),(mv 149 9),(zo 150 (.call (.c (.fn 14)) [.s 147,.s 148,.s 149])),(mv 146 150),(zo 151 (.extract 0 (.s 146))),(zo 152 (.extract 1 (.s 146))),(mv 19 151),(mv 20 152)]) (.seq (.region g5 [(mv 153 7),(mv 154 153),(mg 155 154 true 12),(mg 156 154 true 9),(zg 157 154 true (.bin (.eql) (.s 155) (.s 156))),(zo 158 (.pick (.s 154) (.s 157) cF)),(mv 159 158),(mg 160 159 true 20),(zg 161 159 true (.bin (.eql) (.s 160) (cj 11))),(zo 162 (.pick (.s 159) (.s 161) cF)),(mv 6 162)]) .ret)))))))))
def r5:List fH:=[.slot 6]
def k5:List (Nat×Nat×aH×Nat):=[]
theorem e5:aI Tryz.prog 5 g5 [] [50,65,123,150] k5=some (c5,r5,163):=by kernel_rfl
theorem q5:eU Tryz.prog k5:=eU.nil
attribute [local irreducible] jY vdV eG dD Vt Vs Bs
def Wa:Eng.Spec where
 X:=Sq Of×Int×Int
 args:=fun (l,a,b)=>.cons (ofE l) (.cons (.int .u8 a) (.cons (.int .u8 b) .nil))
 pre:=fun x=>bgO x.1/\(0<=x.2.1/\x.2.1<=255)/\0<=x.2.2/\x.2.2<=255
 res:=fun _=>.bool true
 inst:=fun _=>none
set_option maxHeartbeats 8000000 in
theorem V5:Wa.Ok Tryz.prog 5:=by
 refine Eng.Spec.okR e5 q5 (fun _=>[(9,.p Na),(10,.p Sn),(20,.p vdS),(12,.m V9),(22,.p inS),(14,.m Wb)]) (fun _ _=>aA.p K5 (aA.p O8 (aA.p zR (aA.m V1 (aA.p Sx (aA.m V6 aA.nil)))))) ?_
 rintro ⟨l,m1,m2⟩ ⟨(hb:bgO l),⟨(a0:0<=m1),(a1:m1<=255)⟩,(b0:0<=m2),(b1:m2<=255)⟩
 refine ⟨trivial,?_⟩
 have e1:∀ a b:Nat,aE (aE (!jY l) cT (.s a) true (!vdV l)) cT (.s b) true (decide ((l.n:Int)=0))=(!(jY l && vdV l) || decide ((l.n:Int)=0)):=fun a b=>by rw [aF,aF,Bool.not_and]
 repeat' (first|exact hb|refine fun hg=>And.intro (Gv hb hg) ?_|apply And.intro|exact trivial|exact rfl|exact lz fun _=>rfl|exact S1.zz rfl|refine gd ?_)
 ·refine fun _=>?_
  repeat' (first|apply And.intro|exact trivial|exact rfl|exact lz fun _=>rfl|exact S1.zz rfl|refine gd ?_)
 refine fun (hc0:aE _ cT (.s 33) true _=false)=>?_
 have hc:=(e1 28 33).symm.trans hc0
 rw [Bool.or_eq_false_iff,Bool.not_eq_false',Bool.and_eq_true,decide_eq_false_iff_not] at hc
 obtain ⟨⟨hf,hv⟩,hn0⟩:=hc
 clear hc0 e1
 have hn:l.n≠0:=by omega
 have hpre:=C5 hf hb
 have v:=pM.1 hv
 have h64:=v.n64
 have hok:=hpre.2 h64
 obtain ⟨a,ha,hal⟩:=(Pw (l:=l) a0 hn).nat
 obtain ⟨b,hbe,hbl⟩:=(Pw (l:=l) b0 hn).nat
 have w1:-9223372036854775808<=m1:=by omega
 have w2:m1<=9223372036854775807:=by omega
 have w3:-9223372036854775808<=m2:=by omega
 have w4:m2<=9223372036854775807:=by omega
 repeat' (first|with_reducible exact w1|with_reducible exact w2|with_reducible exact w3|with_reducible exact w4|exact hn0|apply And.intro|exact trivial|exact rfl|exact lz fun _=>rfl|exact S1.zz rfl|refine gd ?_)
 refine Exists.intro (l,Int.tmod m1 (l.n:Int),Int.tmod m2 (l.n:Int)) (Exists.intro [] ?_)
 repeat' (first|exact hpre.1|exact hpre.2|apply And.intro|exact trivial|exact rfl|exact lz fun _=>rfl|exact S1.zz rfl|refine gd ?_)
 rintro (y:Int×Int) (hy:y=Vt l (Int.tmod m1 (l.n:Int)) (Int.tmod m2 (l.n:Int)))
 rw [ha,hbe,Vu hv hal hbl] at hy
 have y1:y.1=(dst (EO l) a b:Int):=by rw [hy]
 have y2:y.2=0:=by rw [hy]
 have y3:(!decide (y.2=0))=false:=by rw [y2]; rfl
 repeat' (first|apply And.intro|exact trivial|exact rfl|exact lz fun _=>rfl|exact S1.zz rfl|refine gd ?_)
 ·exact fun h=>Bool.noConfusion (h.symm.trans y3)
 refine fun _=>?_
 repeat' (first|apply And.intro|exact trivial|exact rfl|exact lz fun _=>rfl|exact S1.zz rfl|refine gd ?_)
 refine ⟨⟨Nat×Nat,fun x=>x.1 < l.n/\dst (EO l) x.1 b=x.2,fun x=>[(12,.int .i64 (x.1:Int)),(13,.int .i64 (x.2:Int))],fun _=>[],fun x=>x.2⟩,(a,dst (EO l) a b),⟨hal,rfl⟩,?_,?_⟩
 ·repeat' (first|exact ha|exact y1|apply And.intro|exact trivial|exact rfl|exact lz fun _=>rfl|exact S1.zz rfl|refine gd ?_)
 rintro ⟨c,d⟩ ⟨(hcl:c < l.n),(hcd:dst (EO l) c b=d)⟩
 have hd64:d < l.n:=by rw [<- hcd]; exact v.far hcl hbl
 repeat' (first|apply And.intro|exact trivial|exact rfl|exact lz fun _=>rfl|exact S1.zz rfl|refine gd ?_)
 ·refine fun (hc:decide ((0:Int) < (d:Int))=true)=>?_
  have hd0:0 < d:=by have:=of_decide_eq_true hc; omega
  obtain ⟨n,rfl⟩:∃ n,d=n+1:=⟨d - 1,by omega⟩
  obtain ⟨q,q1,q2,q3,q4,q5⟩:=V0 hv hcl hbl hcd
  have hcb:c≠b:=fun e=>by rw [e,xK] at hcd; omega
  have hln:=hok.ln c hcl
  have c0:(0:Int)<=(c:Int):=by omega
  have c1:(c:Int) < (l.n:Int):=by omega
  repeat' (first|apply And.intro|exact trivial|exact rfl|exact lz fun _=>rfl|exact S1.zz rfl|refine gd ?_)
  refine Exists.intro (l,(c:Int),Int.tmod m2 (l.n:Int)) (Exists.intro [] ?_)
  repeat' (first|exact hpre.1|exact hpre.2|apply And.intro|exact trivial|exact rfl|exact lz fun _=>rfl|exact S1.zz rfl|refine gd ?_)
  rintro (z:Int×Int) (hz:z=Vs l (c:Int) (Int.tmod m2 (l.n:Int)))
  rw [hbe,V7 hv hcl hbl hcb,q1] at hz
  have z1:z.1=(q:Int):=by rw [hz]
  have z2:z.2=0:=by rw [hz]
  have t1:(!decide (z.2=0))=false:=by rw [z2]; rfl
  have t2:decide (z.1 < 0)=false:=decide_eq_false (by omega)
  have t3:decide ((l.n:Int)<=z.1)=false:=decide_eq_false (by omega)
  have t4:(!orB (fun q=>decide ((l.f c).links.f q=z.1)) (l.f c).links.n)=false:=by rw [z1,q3]; rfl
  have tt:=fun (i j k:Nat)=>Bz (k:=k) (Bz (k:=j) (Bz (k:=i) t1 t2) t3) t4
  repeat' (first|with_reducible exact c0|with_reducible exact c1|exact hln|apply And.intro|exact trivial|exact rfl|exact lz fun _=>rfl|exact S1.zz rfl|refine gd ?_)
  ·exact fun h=>Bool.noConfusion (h.symm.trans (tt _ _ _))
  refine fun _=>?_
  repeat' (first|apply And.intro|exact trivial|exact rfl|exact lz fun _=>rfl|exact S1.zz rfl|refine gd ?_)
  refine ⟨⟨Nat,fun i=>i<=(l.f c).links.n,fun i=>[(16,.int .i64 (i:Int))],fun _=>[],fun i=>(l.f c).links.n - i⟩,0,Nat.zero_le _,?_,?_⟩
  ·repeat' (first|apply And.intro|exact trivial|exact rfl|exact lz fun _=>rfl|exact S1.zz rfl|refine gd ?_)
  rintro (i:Nat) (hi:i<=(l.f c).links.n)
  have i0:(0:Int)<=(i:Int):=by omega
  have i3:-9223372036854775808<=(i:Int)+1:=by omega
  have i4:(i:Int)+1<=9223372036854775807:=by omega
  have il:decide ((i:Int) < ((l.f c).links.n:Int))=true->(i:Int) < ((l.f c).links.n:Int):=fun h=>of_decide_eq_true h
  repeat' (first|with_reducible exact c0|with_reducible exact c1|exact fun hg=>And.intro i0 (il hg)|apply And.intro|exact trivial|exact rfl|exact lz fun _=>rfl|exact S1.zz rfl|refine gd ?_)
  ·refine fun (hc:aE (decide ((i:Int) < ((l.f c).links.n:Int))) (.s 108) cF (decide ((l.f c).links.f i<=z.1)) false=true)=>?_
   rw [aD,Bool.and_eq_true,decide_eq_true_iff,decide_eq_true_iff] at hc
   have hil:i < (l.f c).links.n:=by omega
   have i1:(i:Int) < ((l.f (c:Int).toNat).links.n:Int):=hc.1
   obtain ⟨k,k1,k2,k3⟩:=q5 i hil (by rw [<- z1]; exact hc.2)
   have em:(l.f c).links.n - (i+1) < (l.f c).links.n - i:=by omega
   repeat' (first|with_reducible exact c0|with_reducible exact c1|with_reducible exact i0|with_reducible exact i1|apply And.intro|exact trivial|exact rfl|exact lz fun _=>rfl|exact S1.zz rfl|refine gd ?_)
   refine Exists.intro (l,(l.f c).links.f i,Int.tmod m2 (l.n:Int)) (Exists.intro [] ?_)
   repeat' (first|exact hpre.1|exact hpre.2|apply And.intro|exact trivial|exact rfl|exact lz fun _=>rfl|exact S1.zz rfl|refine gd ?_)
   rintro (u:Int×Int) (hu:u=Vt l ((l.f c).links.f i) (Int.tmod m2 (l.n:Int)))
   rw [k1,hbe,Vu hv k2 hbl] at hu
   have u1:u.1=(dst (EO l) k b:Int):=by rw [hu]
   have u2:u.2=0:=by rw [hu]
   have r1:(!decide (u.2=0))=false:=by rw [u2]; rfl
   have r2:(!decide (decide (u.1=((n+1:Nat):Int) - 1)=decide ((l.f c).links.f i=z.1)))=false:=by
    have:decide (u.1=((n+1:Nat):Int) - 1)=decide ((l.f c).links.f i=z.1):=by
     rw [u1,k1,z1]
     exact decide_eq_decide.2 ⟨fun h=>by have:=k3.1 (by omega); omega,fun h=>by have:=k3.2 (by omega); omega⟩
    rw [decide_eq_true this]; rfl
   have rr:=fun (i:Nat)=>Bz (k:=i) r1 r2
   have s1:-9223372036854775808<=((n+1:Nat):Int) - 1:=by omega
   have s2:((n+1:Nat):Int) - 1<=9223372036854775807:=by omega
   repeat' (first|with_reducible exact c0|with_reducible exact c1|with_reducible exact i0|with_reducible exact i1|with_reducible exact s1|with_reducible exact s2|apply And.intro|exact trivial|exact rfl|exact lz fun _=>rfl|exact S1.zz rfl|refine gd ?_)
   ·exact fun h=>Bool.noConfusion (h.symm.trans (rr _))
   refine fun _=>?_
   repeat' (first|with_reducible exact i3|with_reducible exact i4|apply And.intro|exact trivial|exact rfl|exact lz fun _=>rfl|exact S1.zz rfl|refine gd ?_)
   refine Exists.intro (i+1) (And.intro hil ?_)
   repeat' (first|exact em|apply And.intro|exact trivial|exact rfl|exact lz fun _=>rfl|exact S1.zz rfl|refine gd ?_)
  ·refine fun _=>?_
   have s1:-9223372036854775808<=((n+1:Nat):Int) - 1:=by omega
   have s2:((n+1:Nat):Int) - 1<=9223372036854775807:=by omega
   have s3:((n+1:Nat):Int) - 1=(n:Int):=by omega
   repeat' (first|with_reducible exact s1|with_reducible exact s2|apply And.intro|exact trivial|exact rfl|exact lz fun _=>rfl|exact S1.zz rfl|refine gd ?_)
   refine Exists.intro (q,n) (And.intro ⟨q2,q4⟩ ?_)
   repeat' (first|exact z1|exact s3|exact Nat.lt_succ_self n|apply And.intro|exact trivial|exact rfl|exact lz fun _=>rfl|exact S1.zz rfl|refine gd ?_)
 ·refine fun (hc:decide ((0:Int) < (d:Int))=false)=>?_
  have hd0:d=0:=by have:=of_decide_eq_false hc; omega
  have hcb:c=b:=rL.1 (hcd.trans hd0)
  repeat' (first|apply And.intro|exact trivial|exact rfl|exact lz fun _=>rfl|exact S1.zz rfl|refine gd ?_)
  refine Exists.intro (l,Int.tmod m2 (l.n:Int),Int.tmod m2 (l.n:Int)) (Exists.intro [] ?_)
  repeat' (first|exact hpre.1|exact hpre.2|apply And.intro|exact trivial|exact rfl|exact lz fun _=>rfl|exact S1.zz rfl|refine gd ?_)
  rintro (u:Int×Int) (hu:u=Vs l (Int.tmod m2 (l.n:Int)) (Int.tmod m2 (l.n:Int)))
  have hu0:=hu
  rw [hbe,Vv hv hbl] at hu0
  have t1:decide ((c:Int)=Int.tmod m2 (l.n:Int))=true:=decide_eq_true (by rw [hbe,hcb])
  have t2:decide (u.2=11)=true:=decide_eq_true (by rw [hu0])
  have tt:=fun (i j:Nat)=>oZ (k:=j) (oZ (k:=i) rfl t1) t2
  repeat' (first|exact tt _ _|apply And.intro|exact trivial|exact rfl|exact lz fun _=>rfl|exact S1.zz rfl|refine gd ?_)
end S42
