/- A part of the proof. -/
import Derived.Test.YtpiolkcdfgiefaaGreatDoorD13
import Derived.Test.YtpiolkcdfgiefaaGreatDoorT28
set_option maxHeartbeats 10000000
open Go Go.Eng Go.Proofs T1 T2 T3 T4 T5 T6 T7 T8 T9 T11 T12 T13 T14 T17 T18 T19 T20 T23 T25 T26 T27 T28 T30 T31 T33 D3 D6 D9 D10 D11 D12 D13
set_option maxRecDepth 100000
namespace T34
def TC:TT:=.node [[115,49]] .nil
def TB:TT:=.node [[115,49],[115,50]] (.cons 99 TC .nil)
def TA:TT:=.node [] (.cons 98 TB .nil)
def T0:TT:=.node [] (.cons 97 TA .nil)
theorem Tg:fK yO=(0,T0):=by kernel_rfl
def Nc:bC:=Z0.mof Bool (λx y=>y=decide (x.1=x.2)) (λ_ y=>.bool y)
theorem A9:Nc.Ok Tryz.prog 27:=Eng.Spec.jW Ye λ_ _=>⟨_,rfl,rfl⟩
def L0:List B:=[[116,114,105,101],[49],[115,49]]
theorem lit3{k:Keep}{hp:List (Nat×aL)}{m:Nat}:∀j,j<3->lM k (sub k hp (m+3)) (mO (.cons (.cons (.str [116,114,105,101]) .nil) (.cons (.cons (.str [49]) .nil) (.cons (.cons (.str [115,49]) .nil) .nil))) (0+j)) (idE (L0.getD j [])):=by
 intro j hj;rw[aP];have hc:j=0\/j=1\/j=2:=by omega
 rcases hc with rfl|rfl|rfl<;>exact Or.inl (fS _ _ _ _)
theorem lit2{k:Keep}{hp:List (Nat×aL)}{m:Nat}(a b:B):∀j,j<2->lM k (sub k hp (m+3)) (mO (.cons (.cons (.str a) .nil) (.cons (.cons (.str b) .nil) .nil)) (0+j)) (idE ([a,b].getD j [])):=by
 intro j hj;rw[aP];have hc:j=0\/j=1:=by omega
 rcases hc with rfl|rfl<;>exact Or.inl (fS _ _ _ _)
theorem lit1{k:Keep}{hp:List (Nat×aL)}{m:Nat}(a:B):∀j,j<1->lM k (sub k hp (m+3)) (mO (.cons (.cons (.str a) .nil) .nil) (0+j)) (idE ([a].getD j [])):=by
 intro j hj;rw[aP];obtain rfl:j=0:=(by omega);exact Or.inl (fS _ _ _ _)
theorem itoa1:Lib.itoa ((1:Nat):Int)=[49]:=by
 rw[Lib.itoa_nonneg];simp[Lib.decDigits]
theorem Es:iK Dd TC=mQ L0:=by
 rw[tB];unfold kQ;rw[if_pos (show(ndT TC).bys.length=(ndT TC).kids.length from rfl)];have e:D6.cA (ndT TC)++dO (ndT TC) (ndT TC).kids.length=L0:=by
  show[116,114,105,101]::Lib.itoa ((1:Nat):Int)::[[115,49]]=_;rw[itoa1];rfl
 rw[e]
theorem aF7:ndT TB=⟨[[115,49],[115,50]],[99],[mQ L0]⟩:=by
 rw[<- Es];rfl
theorem aGq:ndO (bV [97] T0)=⟨[],[98],[iK Dd TB]⟩:=rfl
theorem aGr:ndO (bV [97,98] T0)=⟨[[115,49],[115,50]],[99],[iK Dd TC]⟩:=rfl
theorem aGs:ndO (bV [97,98,99] T0)=⟨[[115,49]],[],[]⟩:=rfl
theorem aGt:ndO (bV [98] T0)=⟨[],[],[]⟩:=rfl
theorem xC:dcT T0 ([97,98],[115,51])=10:=by kernel_rfl
theorem Dp{n:ND}(h1:n.ids.length<=10)(h2:n.kids.length<=10)(h3:∀i∈n.ids,i.length<=1000000)(h4:∀i∈n.kids,i.length<=16):(n.ids.length<=100000/\n.kids.length<=100000)/\(dG (D6.cA n++dO n n.kids.length)).length<=140737488355328:=by
 refine⟨⟨by omega,by omega⟩,?_⟩;refine aV (sI (M:=1000000) (by decide) ?_) ?_
 .intro s hs;rcases bT.1 hs with h|h
  .simp only [D6.cA,aR]at h;rcases h with rfl|rfl|h
   .decide
   .grind [sH]
   simp[*]
  grind[wA]
 grind[mY]
theorem aEf:kQ ⟨[[115,49]],[],[]⟩=mQ L0:=(tB TC).symm.trans Es
theorem aGk:kQ ⟨[[115,49],[115,50]],[99],[mQ L0]⟩=iK Dd TB:=by rw[tB,aF7]
theorem aGl:kQ ⟨[],[97],[]⟩=[]:=if_neg (by decide)
theorem dW:lQ T0 ([97,98],[115,50])=T0:=by kernel_rfl
theorem A4:pcT T0 ([97,98],[115,50])=8:=by kernel_rfl
theorem pk{a z:Bool}{n:Nat}(h1:a=true)(h2:z=true):bN a (.s n) cF z false=true:=by grind[bW]
theorem Od:lP T0 ([97,98],[115,51])=T0:=by kernel_rfl
def g10:List Nat:=[2,26,4,6,8,10,1,12,7,11,3,5,13,14,15,0]
def c10:aY :=
 .seq (.region g10 [(zo 0 (.move cF))]) (.seq (.region g10 [(zo 17 (.call (.c (.fn 34)) [])),(zo 18 (.call (.c (.fn 11)) [.s 17])),(mv 16 18),(zo 19 (.extract 0 (.s 16))),(zo 20 (.extract 1 (.s 16))),(mv 1 19),(mv 2 20)]) (.seq (.seq (.region g10 [(mv 21 2),(zo 22 (.bin (.neq) (.s 21) (cj 0))),(mv 23 22),(mg 24 23 false 1),(zg 25 23 false (.ptrEq false (.s 24) (.c (.nilptr)))),(zo 26 (.pick (.s 23) cT (.s 25)))]) (.cond (.s 26) (.seq (.region g10 [(zo 0 (.move cF))]) .ret) .skip)) (.seq (.region g10 [(mv 28 1),(zo 29 (.call (.c (.fn 25)) [.s 28,.c (.str [97])])),(mv 27 29),(zo 30 (.extract 0 (.s 27))),(zo 31 (.extract 1 (.s 27))),(zo 3 (.alloc 39 (.cons (.nilsl) (.cons (.str []) (.cons (.nilsl) .nil))))),⟨none,none,.store 3 (.s 3) (.s 30),[]⟩,(mv 4 31)]) (.seq (.region g10 [(mv 33 1),(zo 34 (.call (.c (.fn 25)) [.s 33,.c (.str [97,98])])),(mv 32 34),(zo 35 (.extract 0 (.s 32))),(zo 36 (.extract 1 (.s 32))),(zo 5 (.alloc 39 (.cons (.nilsl) (.cons (.str []) (.cons (.nilsl) .nil))))),⟨none,none,.store 3 (.s 5) (.s 35),[]⟩,(mv 6 36)]) (.seq (.region g10 [(mv 38 1),(zo 39 (.call (.c (.fn 25)) [.s 38,.c (.str [97,98,99])])),(mv 37 39),(zo 40 (.extract 0 (.s 37))),(zo 41 (.extract 1 (.s 37))),(zo 7 (.alloc 39 (.cons (.nilsl) (.cons (.str []) (.cons (.nilsl) .nil))))),⟨none,none,.store 3 (.s 7) (.s 40),[]⟩,(mv 8 41)]) (.seq (.region g10 [(mv 43 1),(zo 44 (.call (.c (.fn 25)) [.s 43,.c (.str [98])])),(mv 42 44),(zo 45 (.extract 0 (.s 42))),(zo 46 (.extract 1 (.s 42))),(zo 9 (.alloc 39 (.cons (.nilsl) (.cons (.str []) (.cons (.nilsl) .nil))))),⟨none,none,.store 3 (.s 9) (.s 45),[]⟩,(mv 10 46)]) (.seq (.region g10 [(zo 47 (.buildSl 9 1 3 (.cons (.str []) .nil) [(0,1,.c (.str [116,114,105,101])),(1,1,.c (.str [49])),(2,1,.c (.str [115,49]))])),(zo 48 (.call (.c (.fn 35)) [.s 47])),(mv 11 48)]) (.seq (.region g10 [(mv 49 4),(mv 50 49),(fg 51 50 true 0 3),(lg 52 50 true 51),(zg 53 50 true (.lenSl (.s 52))),(zg 54 50 true (.bin (.eql) (.s 53) (cj 0))),(zo 55 (.pick (.s 50) (.s 54) cF)),(mv 56 55),(fg 57 56 true 1 3),(lg 58 56 true 57),(zg 59 56 true (.bin (.eql) (.s 58) (.c (.str [98])))),(zo 60 (.pick (.s 56) (.s 59) cF)),(mv 61 60),(fg 62 61 true 2 3),(lg 63 61 true 62),(zg 64 61 true (.lenSl (.s 63))),(zg 65 61 true (.bin (.eql) (.s 64) (cj 1))),(zo 66 (.pick (.s 61) (.s 65) cF)),(mv 67 66),(mg 68 67 true 6),(zo 69 (.pick (.s 67) (.s 68) cF)),(mv 70 69),(zg 71 70 true (.load 3 true (.s 5))),(zg 72 70 true (.buildSl 9 1 2 (.cons (.str []) .nil) [(0,1,.c (.str [115,49])),(1,1,.c (.str [115,50]))])),(mg 73 70 true 11),(zg 74 70 true (.buildSl 9 1 1 (.cons (.str []) .nil) [(0,1,.s 73)])),(zg 75 70 true (.build (.cons (.nilsl) (.cons (.str []) (.cons (.nilsl) .nil))) [(0,1,.s 72),(1,1,.c (.str [99])),(2,1,.s 74)])),(zg 76 70 true (.call (.c (.fn 27)) [.s 71,.s 75])),(zo 77 (.pick (.s 70) (.s 76) cF)),(mv 78 77),(mg 79 78 true 8),(zo 80 (.pick (.s 78) (.s 79) cF)),(mv 81 80),(zg 82 81 true (.load 3 true (.s 7))),(zg 83 81 true (.buildSl 9 1 1 (.cons (.str []) .nil) [(0,1,.c (.str [115,49]))])),(zg 84 81 true (.build (.cons (.nilsl) (.cons (.str []) (.cons (.nilsl) .nil))) [(0,1,.s 83)])),(zg 85 81 true (.call (.c (.fn 27)) [.s 82,.s 84])),(zo 86 (.pick (.s 81) (.s 85) cF)),(mv 87 86),(mg 88 87 true 10),(zg 89 87 true (.not (.s 88))),(zo 90 (.pick (.s 87) (.s 89) cF)),(mv 12 90)]) (.seq (.region g10 [(mv 91 1),(zo 92 (.build (.cons (.str []) (.cons (.str []) .nil)) [(0,1,.c (.str [97,98])),(1,1,.c (.str [115,50]))])),(zo 93 (.call (.c (.fn 15)) [.s 91,.s 92])),(mv 13 93)]) (.seq (.region g10 [(mv 94 1),(zo 95 (.build (.cons (.str []) (.cons (.str []) .nil)) [(0,1,.c (.str [97,98])),(1,1,.c (.str [115,51]))])),(zo 96 (.call (.c (.fn 14)) [.s 94,.s 95])),(mv 14 96)]) (.seq (.region g10 [(mv 97 1),(zo 98 (.call (.c (.fn 16)) [.s 97])),(mv 15 98)]) (.seq (.drawn g10 (.pure 0 (mv 99 12) (.pure 1 (mv 100 99) (.pure 2 (zg 101 100 true (.load 3 true (.s 7))) (.pure 4 (mg 103 100 true 11) (.eff 3 (zg 102 100 true (.call (.c (.fn 19)) [.s 101])) [] (.pure 5 (zg 104 100 true (.bin (.eql) (.s 102) (.s 103))) (.pure 6 (zo 105 (.pick (.s 100) (.s 104) cF)) (.pure 7 (mv 106 105) (.pure 8 (fg 107 106 true 2 3) (.pure 9 (lg 108 106 true 107) (.pure 10 (zg 109 106 true (.idxSl 1 (.s 108) (cj 0))) (.pure 11 (lg 110 106 true 109) (.pure 12 (zg 111 106 true (.load 3 true (.s 5))) (.eff 13 (zg 112 106 true (.call (.c (.fn 19)) [.s 111])) [(lg 110 106 true 109),(lg 108 106 true 107)] (.pure 14 (zg 113 106 true (.bin (.eql) (.s 110) (.s 112))) (.pure 15 (zo 114 (.pick (.s 106) (.s 113) cF)) (.pure 16 (mv 115 114) (.pure 17 (mg 116 115 true 13) (.pure 18 (zg 117 115 true (.bin (.eql) (.s 116) (cj 8))) (.pure 19 (zo 118 (.pick (.s 115) (.s 117) cF)) (.pure 20 (mv 119 118) (.pure 21 (mg 120 119 true 14) (.pure 22 (zg 121 119 true (.bin (.eql) (.s 120) (cj 10))) (.pure 23 (zo 122 (.pick (.s 119) (.s 121) cF)) (.pure 24 (mv 123 122) (.pure 25 (mg 124 123 true 15) (.pure 26 (zg 125 123 true (.lenSl (.s 124))) (.pure 27 (zg 126 123 true (.bin (.eql) (.s 125) (cj 3))) (.pure 28 (zo 127 (.pick (.s 123) (.s 126) cF)) (.pure 29 (mv 128 127) (.pure 30 (mg 129 128 true 15) (.pure 31 (zg 130 128 true (.idxSl 2 (.s 129) (cj 0))) (.pure 32 (zg 131 128 true (.load 2 true (.s 130))) (.pure 33 (zg 132 128 true (.build (.cons (.str []) (.cons (.str []) .nil)) [(0,1,.c (.str [97,98])),(1,1,.c (.str [115,49]))])) (.pure 34 (zg 133 128 true (.eqS false [(0,2),(1,2)] (.s 131) (.s 132))) (.pure 35 (zo 134 (.pick (.s 128) (.s 133) cF)) (.pure 36 (mv 135 134) (.pure 37 (zg 136 135 true (.build (.cons (.nilsl) (.cons (.str []) (.cons (.nilsl) .nil))) [(1,1,.c (.str [97]))])) (.eff 38 (zg 137 135 true (.call (.c (.fn 19)) [.s 136])) [] (.pure 39 (zg 138 135 true (.bin (.eql) (.s 137) (.c (.str [])))) (.pure 40 (zo 139 (.pick (.s 135) (.s 138) cF)) (.pure 41 (mv 0 139) .done))) .none))))))))))))))))))))))))) .none))))))))) .none)))))) .ret))))))))))))
theorem e10:bO Tryz.prog 10 g10 [] [102,112,137] []=some (c10,[.slot 0],140):=by kernel_rfl
def R8:Eng.Spec where
 X:=Unit
 args:=λ_=>.nil
 pre:=λ_=>True
 res:=λ_=>.bool true
 inst:=λ_=>some ()
attribute [local irreducible] D9.Dd D6.mQ
set_option maxHeartbeats 1000000 in
theorem L7:R8.Ok Tryz.prog 10:=by
 refine Eng.Spec.okR e10 .nil (λ_=>[(34,.m Z1),(11,.m (Xq Dd)),(25,.m Zr),(35,.m S1),(27,.m Nc),(15,.m ptS),(14,.m dtS),(16,.m Zj),(19,.m Rc),(2097152,.own)]) (λ_ _=>aO.m Yf (aO.m (J7 Dd) (aO.m Mx (aO.m (G0 D8.zF) (aO.m A9 (aO.m Zs (aO.m Y6 (aO.m Ml (aO.m zA (aO.o aO.nil)))))))))) ?_;rintro⟨⟩ _;refine⟨trivial,?_⟩;repeat' (first|apply aA|exact trivial|exact rfl|exact zf|exact zh|refine zt ?_|fail)
 refine aB () (aB [] ?_);repeat' (first|apply aA|exact trivial|exact rfl|exact zf|exact zh|refine zt ?_|fail)
 refine λ(_:Unit) (_:True)=>?_;repeat' (first|apply aA|exact trivial|exact rfl|exact zf|exact zh|refine zt ?_|fail)
 refine aB yO (aB [] ?_);have hpn:yO.length<4611686018427387904/\∀j,j<yO.length->(yO.getD j k0).1.length<4611686018427387904:=by
  refine⟨by decide,λj hj=>?_⟩;replace hj:j<3:=hj;have hc:j=0\/j=1\/j=2:=by omega
  rcases hc with rfl|rfl|rfl<;>decide
 repeat' (first|exact hpn|apply aA|exact trivial|exact rfl|exact zf|exact zh|refine zt ?_|exact aN 3|exact(λ(j:Nat) _=>by rw[aP]; exact Or.inl (kI _ _ _ _))|fail)
 refine λ(y:NY) (hy:(y.e=(fK yO).1/\y.o=decide (y.e=0))/\(y.o=true->Tr Dd (fK yO).2 y.N y.c y.r y.K/\0<=y.K/\y.K<=20000000))=>?_;rw[Tg]at hy;obtain⟨e,o,N,c,r,K⟩:=y;obtain⟨⟨(rfl:e=0),(ho:o=decide ((0:Int)=0))⟩,htr⟩:=hy;obtain rfl:o=true:=ho.trans (by decide);obtain⟨(htr:Tr Dd T0 N c r K),(hK0:0<=K),(hK1:K<=20000000)⟩:=htr rfl;clear ho;repeat' (first|apply aA|exact trivial|exact rfl|exact zm N rfl|exact zr N rfl rfl|exact zf|exact zh|refine zt ?_|fail)
 obtain⟨dB,hdB⟩:∃d,iK Dd TB=d:=⟨_,rfl⟩;obtain⟨lf,hlf⟩:∃d,mQ L0=d:=⟨_,rfl⟩;obtain⟨F1,hd1,hF1⟩:=htr.dok (by decide);have hn1:DOk (htT T0) ⟨N,T0,r,F1⟩/\Cl N c/\([97]:B).length<=1000000:=⟨hd1,htr.ok.cl,by decide⟩;refine aB ⟨⟨N,T0,r,F1⟩,c,[97]⟩ (aB [1,2] ?_);repeat' (first|exact hn1|apply aA|exact trivial|exact rfl|exact zm N rfl|exact zr N rfl rfl|exact zf|exact zh|refine zt ?_|exact lz λ_=>rfl|fail)
 refine λ(y:(Nat->NO)×ND×Bool) (hy:DPo ⟨N,T0,r,F1⟩ y.1/\y.2.1=ndO (bV [97] T0)/\y.2.2=(bV [97] T0).isSome)=>?_;obtain⟨N1,nd,b⟩:=y;obtain⟨(hq1:DPo ⟨N,T0,r,F1⟩ N1),(hnd:nd=_),(hb:b=_)⟩:=hy;rw[aGq]at hnd;replace hb:b=true:=hb;rw[hdB]at hnd;subst hnd hb;have htr1:Tr Dd T0 N1 c r K:=htr.mark hF1 hq1;clear hq1 hn1 hd1 hF1;repeat' (first|apply aA|exact trivial|exact rfl|exact zm N1 rfl|exact zr N1 rfl rfl|exact zf|exact zh|refine zt ?_|exact lz λ_=>rfl|fail)
 obtain⟨F2,hd2,hF2⟩:=htr1.dok (by decide);have hn2:DOk (htT T0) ⟨N1,T0,r,F2⟩/\Cl N1 c/\([97,98]:B).length<=1000000:=⟨hd2,htr1.ok.cl,by decide⟩;refine aB ⟨⟨N1,T0,r,F2⟩,c,[97,98]⟩ (aB [1,2] ?_);repeat' (first|exact hn2|apply aA|exact trivial|exact rfl|exact zm N1 rfl|exact zr N1 rfl rfl|exact zf|exact zh|refine zt ?_|exact lz λ_=>rfl|fail)
 refine λ(y:(Nat->NO)×ND×Bool) (hy:DPo ⟨N1,T0,r,F2⟩ y.1/\y.2.1=ndO (bV [97,98] T0)/\y.2.2=(bV [97,98] T0).isSome)=>?_;obtain⟨N2,nd,b⟩:=y;obtain⟨(hq2:DPo ⟨N1,T0,r,F2⟩ N2),(hnd:nd=_),(hb:b=_)⟩:=hy;rw[aGr]at hnd;replace hb:b=true:=hb;rw[Es,hlf]at hnd;subst hnd hb;have htr2:Tr Dd T0 N2 c r K:=htr1.mark hF2 hq2;clear hq2 hn2 hd2 hF2;repeat' (first|apply aA|exact trivial|exact rfl|exact zm N2 rfl|exact zr N2 rfl rfl|exact zf|exact zh|refine zt ?_|exact lz λ_=>rfl|fail)
 obtain⟨F3,hd3,hF3⟩:=htr2.dok (by decide);have hn3:DOk (htT T0) ⟨N2,T0,r,F3⟩/\Cl N2 c/\([97,98,99]:B).length<=1000000:=⟨hd3,htr2.ok.cl,by decide⟩;refine aB ⟨⟨N2,T0,r,F3⟩,c,[97,98,99]⟩ (aB [1,2] ?_);repeat' (first|exact hn3|apply aA|exact trivial|exact rfl|exact zm N2 rfl|exact zr N2 rfl rfl|exact zf|exact zh|refine zt ?_|exact lz λ_=>rfl|fail)
 refine λ(y:(Nat->NO)×ND×Bool) (hy:DPo ⟨N2,T0,r,F3⟩ y.1/\y.2.1=ndO (bV [97,98,99] T0)/\y.2.2=(bV [97,98,99] T0).isSome)=>?_;obtain⟨N3,nd,b⟩:=y;obtain⟨(hq3:DPo ⟨N2,T0,r,F3⟩ N3),(hnd:nd=_),(hb:b=_)⟩:=hy;rw[aGs]at hnd;replace hb:b=true:=hb;subst hnd hb;have htr3:Tr Dd T0 N3 c r K:=htr2.mark hF3 hq3;clear hq3 hn3 hd3 hF3;repeat' (first|apply aA|exact trivial|exact rfl|exact zm N3 rfl|exact zr N3 rfl rfl|exact zf|exact zh|refine zt ?_|exact lz λ_=>rfl|fail)
 obtain⟨F4,hd4,hF4⟩:=htr3.dok (by decide);have hn4:DOk (htT T0) ⟨N3,T0,r,F4⟩/\Cl N3 c/\([98]:B).length<=1000000:=⟨hd4,htr3.ok.cl,by decide⟩;refine aB ⟨⟨N3,T0,r,F4⟩,c,[98]⟩ (aB [1,2] ?_);repeat' (first|exact hn4|apply aA|exact trivial|exact rfl|exact zm N3 rfl|exact zr N3 rfl rfl|exact zf|exact zh|refine zt ?_|exact lz λ_=>rfl|fail)
 refine λ(y:(Nat->NO)×ND×Bool) (hy:DPo ⟨N3,T0,r,F4⟩ y.1/\y.2.1=ndO (bV [98] T0)/\y.2.2=(bV [98] T0).isSome)=>?_;obtain⟨N4,nd,b⟩:=y;obtain⟨(hq4:DPo ⟨N3,T0,r,F4⟩ N4),(hnd:nd=_),(hb:b=_)⟩:=hy;rw[aGt]at hnd;replace hb:b=false:=hb;subst hnd hb;have htr4:Tr Dd T0 N4 c r K:=htr3.mark hF4 hq4;clear hq4 hn4 hd4 hF4;repeat' (first|apply aA|exact trivial|exact rfl|exact zm N4 rfl|exact zr N4 rfl rfl|exact zf|exact zh|refine zt ?_|exact lz λ_=>rfl|fail)
 have hl0:L0.length<=1000000/\(dG L0).length<=140737488355328:=⟨by decide,aV (sI (M:=4) (by decide) (by decide)) (by decide)⟩;refine aB L0 (aB [] ?_);repeat' (first|exact hl0|apply aA|exact trivial|exact rfl|exact zf|exact zh|refine zt ?_|exact aN 3|exact lit3|fail)
 refine λ(leaf:B) (hleaf:leaf=mQ L0)=>?_;obtain rfl:leaf=lf:=hleaf.trans hlf;clear hleaf;repeat' (first|apply aA|exact trivial|exact rfl|exact zf|exact zh|refine zt ?_|exact lz λ_=>rfl|fail)
 have hs1:(⟨[[115,49],[115,50]],[99],[leaf]⟩:ND).ids.length<4611686018427387904/\(⟨[[115,49],[115,50]],[99],[leaf]⟩:ND).kids.length<4611686018427387904:=⟨by simp,by simp⟩;refine aB (⟨[[115,49],[115,50]],[99],[leaf]⟩,⟨[[115,49],[115,50]],[99],[leaf]⟩) (aB [] ?_);repeat' (first|exact hs1|apply aA|exact trivial|exact rfl|exact zf|exact zh|refine zt ?_|exact lz λ_=>rfl|fail)
 .omega
 .exact (λ(i:Nat) _=>by rw[aP i]; exact Or.inl (fS _ _ _ _))
 .omega
 .exact (λ(i:Nat) _=>by rw[aP i]; exact Or.inl (fS _ _ _ _))
 .omega
 .exact lit2 _ _
 .omega
 .exact lit1 _
 refine λ(y1:Bool) (hy1:y1=decide (_=_))=>?_;obtain rfl:y1=true:=hy1.trans (decide_eq_true rfl);clear hy1;repeat' (first|apply aA|exact trivial|exact rfl|exact zf|exact zh|refine zt ?_|exact lz λ_=>rfl|fail)
 have hs2:(⟨[[115,49]],[],[]⟩:ND).ids.length<4611686018427387904/\(⟨[[115,49]],[],[]⟩:ND).kids.length<4611686018427387904:=⟨by simp,by simp⟩;refine aB (⟨[[115,49]],[],[]⟩,⟨[[115,49]],[],[]⟩) (aB [] ?_);repeat' (first|exact hs2|apply aA|exact trivial|exact rfl|exact zf|exact zh|refine zt ?_|exact lz λ_=>rfl|fail)
 .omega
 .exact (λ(i:Nat) _=>by rw[aP i]; exact Or.inl (fS _ _ _ _))
 .omega
 .omega
 .exact lit1 _
 refine λ(y1:Bool) (hy1:y1=decide (_=_))=>?_;obtain rfl:y1=true:=hy1.trans (decide_eq_true rfl);clear hy1;repeat' (first|apply aA|exact trivial|exact rfl|exact zf|exact zh|refine zt ?_|exact lz λ_=>rfl|fail)
 have hpp:POk ⟨T0,N4,c,r,K,([97,98],[115,50])⟩:=⟨htr4,hK0,by grind,by simp⟩;refine aB ⟨T0,N4,c,r,K,([97,98],[115,50])⟩ (aB [1,2] ?_);repeat' (first|exact hpp|apply aA|exact trivial|exact rfl|exact zf|exact zh|refine zt ?_|exact zm N4 rfl|exact zr N4 rfl rfl|fail)
 refine λ(y:(Nat->NO)×Nat×Int) (hy:Tr Dd (lQ T0 ([97,98],[115,50])) y.1 y.2.1 r (K+1000)/\y.2.2=pcT T0 ([97,98],[115,50]))=>?_;obtain⟨N5,c5,f5⟩:=y;obtain⟨(htr5:Tr Dd (lQ T0 _) N5 c5 r (K+1000)),(hf5:f5=pcT T0 _)⟩:=hy;rw[A4]at hf5;rw[dW]at htr5;subst hf5;repeat' (first|apply aA|exact trivial|exact rfl|exact zf|exact zh|refine zt ?_|exact zm N5 rfl|exact zr N5 rfl rfl|fail)
 have hpd:POk ⟨T0,N5,c5,r,K+1000,([97,98],[115,51])⟩:=⟨htr5,by grind,by grind,by simp⟩;refine aB ⟨T0,N5,c5,r,K+1000,([97,98],[115,51])⟩ (aB [1,2] ?_);repeat' (first|exact hpd|apply aA|exact trivial|exact rfl|exact zf|exact zh|refine zt ?_|exact zm N5 rfl|exact zr N5 rfl rfl|fail)
 refine λ(y:(Nat->NO)×Int) (hy:Tr Dd (lP T0 ([97,98],[115,51])) y.1 c5 r (K+1000+1000)/\y.2=dcT T0 ([97,98],[115,51]))=>?_;obtain⟨N6,f6⟩:=y;obtain⟨(htr6:Tr Dd (lP T0 _) N6 c5 r (K+1000+1000)),(hf6:f6=dcT T0 _)⟩:=hy;rw[Od]at htr6;rw[xC]at hf6;subst hf6;repeat' (first|apply aA|exact trivial|exact rfl|exact zf|exact zh|refine zt ?_|exact zm N6 rfl|exact zr N6 rfl rfl|fail)
 have hkk:AOk (htT T0) ⟨N6,T0,r,[]⟩/\(bB [] T0).length<=1000000/\([]:B)=[]:=⟨htr6.aok (by decide),by decide,rfl⟩;refine aB ⟨N6,T0,r,[]⟩ (aB [1,2] ?_);repeat' (first|exact hkk|apply aA|exact trivial|exact rfl|exact zf|exact zh|refine zt ?_|exact zm N6 rfl|exact zr N6 rfl rfl|fail)
 refine λ(_:Unit) (_:True)=>?_;repeat' (first|apply aA|exact trivial|exact rfl|exact zf|exact zh|refine zt ?_|exact zm N6 rfl|exact zr N6 rfl rfl|fail)
 have hdp1:=Dp (n:=⟨[[115,49]],[],[]⟩) (by decide) (by decide) (by decide) (by decide);refine aB ⟨[[115,49]],[],[]⟩ (aB [] ?_);repeat' (first|exact hdp1|apply aA|exact trivial|exact rfl|exact zf|exact zh|refine zt ?_|exact lz λ_=>rfl|fail)
 .omega
 .exact (λ(i:Nat) _=>by rw[aP i]; exact Or.inl (fS _ _ _ _))
 .omega
 refine λ(y3:B) (hy3:y3=kQ _)=>?_;obtain rfl:y3=leaf:=hy3.trans (aEf.trans hlf);clear hy3;repeat' (first|apply aA|exact trivial|exact rfl|exact zf|exact zh|refine zt ?_|exact lz λ_=>rfl|fail)
 have hll:decide (y3=y3)=true:=decide_eq_true rfl;all_goals first
  |exact λh=>Bool.noConfusion (show true=false from h)
  |refine λ(_:bN _ _ _ _ _=true)=>?_
  | (refine λ(h:bN _ _ _ (decide (y3=y3)) _=false)=>?_; rw[hll]at h; exact Bool.noConfusion (show true=false from h))
  |skip
 .simp
 .simp
 .have hdp2:=Dp (n:=⟨[[115,49],[115,50]],[99],[y3]⟩) (by simp) (by simp) (by simp) (λi hi=>by
   obtain rfl:i=y3:=eS.1 hi
   grind[aEf,Lk])
  refine aB ⟨[[115,49],[115,50]],[99],[y3]⟩ (aB [] ?_);repeat' (first|exact hdp2|apply aA|exact trivial|exact rfl|exact zf|exact zh|refine zt ?_|exact lz λ_=>rfl|fail)
  .omega
  .exact (λ(i:Nat) _=>by rw[aP i]; exact Or.inl (fS _ _ _ _))
  .omega
  .exact (λ(i:Nat) _=>by rw[aP i]; exact Or.inl (fS _ _ _ _))
  refine λ(y4:B) (hy4:y4=kQ _)=>?_;obtain rfl:y4=dB:=hy4.trans ((congrArg (λz=>kQ ⟨[[115,49],[115,50]],[99],[z]⟩) hlf.symm).trans (aGk.trans hdB));clear hy4;have hl3:decide (y3=y3)=true:=decide_eq_true rfl;have hl4:decide (y4=y4)=true:=decide_eq_true rfl;repeat' (first|apply aA|exact trivial|exact rfl|exact zf|exact zh|refine zt ?_|exact lz λ_=>rfl|fail)
  all_goals first
   | (refine λ(h:bN _ _ _ _ _=false)=>?_; simp only at h; exact Bool.noConfusion (show true=false from h))
   | (refine λ(h:bN _ _ _ _ _=!true)=>?_; simp only at h; exact Bool.noConfusion (show true=false from h))
   | (refine λ(_:bN _ _ _ _ _=true)=>?_)
   |skip
  .refine aA (gY 0) ?_;show(0:Int)<((3:Nat):Int);decide
  .show 0<3;decide
  .have hdp3:=Dp (n:=⟨[],[97],[]⟩) (by decide) (by decide) (by decide) (by decide);refine aB ⟨[],[97],[]⟩ (aB [] ?_);repeat' (first|exact hdp3|apply aA|exact trivial|exact rfl|exact zf|exact zh|refine zt ?_|exact lz λ_=>rfl|exact aN 0|fail)
   refine λ(y5:B) (hy5:y5=kQ _)=>?_;obtain rfl:y5=[]:=hy5.trans aGl;clear hy5;have he4:decide ([y4].getD (Nat.add 0 (Int.ofNat 0).toNat) []=y4)=true:=decide_eq_true rfl;repeat' (first|apply aA|exact trivial|exact rfl|exact zf|exact zh|refine zt ?_|exact lz λ_=>rfl|fail)
   exact(pk (pk (pk (pk (pk (pk (pk rfl hl3) he4) rfl) rfl) rfl) rfl) rfl:bN _ _ _ _ _=true)
  .refine λ(h:bN _ _ _ _ _=!true)=>?_;have he4:decide ([y4].getD (Nat.add 0 (Int.ofNat 0).toNat) []=y4)=true:=decide_eq_true rfl;exact Bool.noConfusion (show false=true from h.symm.trans (pk (pk (pk (pk (pk (pk rfl hl3) he4) rfl) rfl) rfl) rfl))
 .refine λ(h:bN _ _ _ (decide (y3=y3)) _=!true)=>?_;rw[decide_eq_true (rfl:y3=y3)]at h;exact Bool.noConfusion (show true=false from h)
end T34
