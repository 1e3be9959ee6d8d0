/- A part of the proof. -/
import Derived.Test.YtpiolkcdfgiefaaGreatDoorD13
import Derived.Test.YtpiolkcdfgiefaaGreatDoorT28
section
open Go Go.Eng Go.Proofs T1 T2 T3 T4 T5 T6 T7 T8 T9 T11 T12 T13 T14 T17 T18 T19 T20 T23 T25 T26 T27 T28 T30 T31 T33 D3 D6 D9 D10 D11 D12 D13
set_option maxRecDepth 100000
namespace T34
def TC:TT:=.node [[115,49]] .nil
def TB:TT:=.node [[115,49],[115,50]] (.cons 99 TC .nil)
def TA:TT:=.node [] (.cons 98 TB .nil)
def T0:TT:=.node [] (.cons 97 TA .nil)
theorem L7:eN tA=(0,T0):=by kernel_rfl
def Q2:aM:=Q3.mof Bool (fun x y=>y=decide (x.1=x.2)) (fun _ y=>.bool y)
theorem Mu:Q2.Ok Tryz.prog 27:=Eng.Spec.kW Pv fun _ _=>⟨_,rfl,rfl⟩
def L0:List B:=[[116,114,105,101],[49],[115,49]]
theorem lit3 {k:Keep} {hp:List (Nat×aE)} {m:Nat}:∀ j,j < 3->iK k (sub k hp (m+3)) (hZ (.cons (.cons (.str [116,114,105,101]) .nil) (.cons (.cons (.str [49]) .nil) (.cons (.cons (.str [115,49]) .nil) .nil))) (0+j)) (idE (L0.getD j [])):=by
 intro j hj
 rw [Nat.zero_add]
 have hc:j=0\/j=1\/j=2:=by omega
 rcases hc with rfl|rfl|rfl <;> exact Or.inl (aN _ _ _ _)
theorem lit2 {k:Keep} {hp:List (Nat×aE)} {m:Nat} (a b:B):∀ j,j < 2->iK k (sub k hp (m+3)) (hZ (.cons (.cons (.str a) .nil) (.cons (.cons (.str b) .nil) .nil)) (0+j)) (idE ([a,b].getD j [])):=by
 intro j hj
 rw [Nat.zero_add]
 have hc:j=0\/j=1:=by omega
 rcases hc with rfl|rfl <;> exact Or.inl (aN _ _ _ _)
theorem lit1 {k:Keep} {hp:List (Nat×aE)} {m:Nat} (a:B):∀ j,j < 1->iK k (sub k hp (m+3)) (hZ (.cons (.cons (.str a) .nil) .nil) (0+j)) (idE ([a].getD j [])):=by
 intro j hj
 rw [Nat.zero_add]
 obtain rfl:j=0:=(by omega)
 exact Or.inl (aN _ _ _ _)
theorem itoa1:Lib.itoa ((1:Nat):Int)=[49]:=by
 rw [Lib.itoa_nonneg]
 simp [Lib.decDigits]
theorem zG:lR Dd TC=lD L0:=by
 rw [tK]
 unfold jZ
 rw [if_pos (show (ndT TC).bys.length=(ndT TC).kids.length from rfl)]
 have e:D6.bZ (ndT TC)++fJ (ndT TC) (ndT TC).kids.length=L0:=by
  show [116,114,105,101]::Lib.itoa ((1:Nat):Int)::[[115,49]]=_
  rw [itoa1]
  rfl
 rw [e]
theorem Vq:ndT TB=⟨[[115,49],[115,50]],[99],[lD L0]⟩:=by
 rw [<- zG]
 rfl
theorem V8:ndO (cM [97] T0)=⟨[],[98],[lR Dd TB]⟩:=rfl
theorem V9:ndO (cM [97,98] T0)=⟨[[115,49],[115,50]],[99],[lR Dd TC]⟩:=rfl
theorem Wa:ndO (cM [97,98,99] T0)=⟨[[115,49]],[],[]⟩:=rfl
theorem Wb:ndO (cM [98] T0)=⟨[],[],[]⟩:=rfl
theorem H6:dcT T0 ([97,98],[115,51])=10:=by kernel_rfl
theorem yG {n:ND} (h1:n.ids.length<=10) (h2:n.kids.length<=10) (h3:∀ i∈n.ids,i.length<=1000000) (h4:∀ i∈n.kids,i.length<=16):(n.ids.length<=100000/\n.kids.length<=100000)/\(dR (D6.bZ n++fJ n n.kids.length)).length<=140737488355328:=by
 refine ⟨⟨by omega,by omega⟩,?_⟩
 refine Nat.le_trans (qO (M:=1000000) (by decide) ?_) ?_
 ·intro s hs
  rcases List.mem_append.1 hs with h|h
  ·simp only [D6.bZ,List.mem_cons] at h
   rcases h with rfl|rfl|h
   ·decide
   ·exact Nat.le_trans (uQ _ (by omega)) (by decide)
   ·exact h3 s h
  ·exact Nat.le_trans (uU h4 _ s h) (by decide)
 ·rw [pY]
  have:(2+n.ids.length+2 * n.kids.length) * (1000000+21)<=38 * (1000000+21):=Nat.mul_le_mul_right _ (by omega)
  omega
theorem Uq:jZ ⟨[[115,49]],[],[]⟩=lD L0:=(tK TC).symm.trans zG
theorem Vz:jZ ⟨[[115,49],[115,50]],[99],[lD L0]⟩=lR Dd TB:=by rw [tK,Vq]
theorem V0:jZ ⟨[],[97],[]⟩=[]:=if_neg (by decide)
theorem bN:gS T0 ([97,98],[115,50])=T0:=by kernel_rfl
theorem Mj:pcT T0 ([97,98],[115,50])=8:=by kernel_rfl
theorem pk {a z:Bool} {n:Nat} (h1:a=true) (h2:z=true):aW a (.s n) cF z false=true:=by rw [bG,h1,h2]; rfl
theorem H7:iQ T0 ([97,98],[115,51])=T0:=by kernel_rfl
def g10:List Nat:=[2,26,4,6,8,10,1,12,7,11,3,5,13,14,15,0]
def c10:aH :=
 .seq (.region g10 [(zo 0 (.move cF))]) (.seq (.region g10 [(zo 17 (.call (.c (.fn 34)) [])),(zo 18 (.call (.c (.fn 11)) [.s 17])),(mv 16 18),(zo 19 (.extract 0 (.s 16))),(zo 20 (.extract 1 (.s 16))),(mv 1 19),(mv 2 20)]) (.seq (.seq (.region g10 [(mv 21 2),(zo 22 (.bin (.neq) (.s 21) (cj 0))),(mv 23 22),(mg 24 23 false 1),(zg 25 23 false (.ptrEq false (.s 24) (.c (.nilptr)))),(zo 26 (.pick (.s 23) cT (.s 25)))]) (.cond (.s 26) (.seq (.region g10 [(zo 0 (.move cF))]) .ret) .skip)) (.seq (.region g10 [(mv 28 1),(zo 29 (.call (.c (.fn 25)) [.s 28,.c (.str [97])])),(mv 27 29),(zo 30 (.extract 0 (.s 27))),(zo 31 (.extract 1 (.s 27))),(zo 3 (.alloc 39 (.cons (.nilsl) (.cons (.str []) (.cons (.nilsl) .nil))))),⟨none,none,.store 3 (.s 3) (.s 30),[]⟩,(mv 4 31)]) (.seq (.region g10 [(mv 33 1),(zo 34 (.call (.c (.fn 25)) [.s 33,.c (.str [97,98])])),(mv 32 34),(zo 35 (.extract 0 (.s 32))),(zo 36 (.extract 1 (.s 32))),(zo 5 (.alloc 39 (.cons (.nilsl) (.cons (.str []) (.cons (.nilsl) .nil))))),⟨none,none,.store 3 (.s 5) (.s 35),[]⟩,(mv 6 36)]) (.seq (.region g10 [(mv 38 1),(zo 39 (.call (.c (.fn 25)) [.s 38,.c (.str [97,98,99])])),(mv 37 39),(zo 40 (.extract 0 (.s 37))),(zo 41 (.extract 1 (.s 37))),(zo 7 (.alloc 39 (.cons (.nilsl) (.cons (.str []) (.cons (.nilsl) .nil))))),⟨none,none,.store 3 (.s 7) (.s 40),[]⟩,(mv 8 41)]) (.seq (.region g10 [(mv 43 1),(zo 44 (.call (.c (.fn 25)) [.s 43,.c (.str [98])])),(mv 42 44),(zo 45 (.extract 0 (.s 42))),(zo 46 (.extract 1 (.s 42))),(zo 9 (.alloc 39 (.cons (.nilsl) (.cons (.str []) (.cons (.nilsl) .nil))))),⟨none,none,.store 3 (.s 9) (.s 45),[]⟩,(mv 10 46)]) (.seq (.region g10 [(zo 47 (.buildSl 9 1 3 (.cons (.str []) .nil) [(0,1,.c (.str [116,114,105,101])),(1,1,.c (.str [49])),(2,1,.c (.str [115,49]))])),(zo 48 (.call (.c (.fn 35)) [.s 47])),(mv 11 48)]) (.seq (.region g10 [(mv 49 4),(mv 50 49),(fg 51 50 true 0 3),(lg 52 50 true 51),(zg 53 50 true (.lenSl (.s 52))),(zg 54 50 true (.bin (.eql) (.s 53) (cj 0))),(zo 55 (.pick (.s 50) (.s 54) cF)),(mv 56 55),(fg 57 56 true 1 3),(lg 58 56 true 57),(zg 59 56 true (.bin (.eql) (.s 58) (.c (.str [98])))),(zo 60 (.pick (.s 56) (.s 59) cF)),(mv 61 60),(fg 62 61 true 2 3),(lg 63 61 true 62),(zg 64 61 true (.lenSl (.s 63))),(zg 65 61 true (.bin (.eql) (.s 64) (cj 1))),(zo 66 (.pick (.s 61) (.s 65) cF)),(mv 67 66),(mg 68 67 true 6),(zo 69 (.pick (.s 67) (.s 68) cF)),(mv 70 69),(zg 71 70 true (.load 3 true (.s 5))),(zg 72 70 true (.buildSl 9 1 2 (.cons (.str []) .nil) [(0,1,.c (.str [115,49])),(1,1,.c (.str [115,50]))])),(mg 73 70 true 11),(zg 74 70 true (.buildSl 9 1 1 (.cons (.str []) .nil) [(0,1,.s 73)])),(zg 75 70 true (.build (.cons (.nilsl) (.cons (.str []) (.cons (.nilsl) .nil))) [(0,1,.s 72),(1,1,.c (.str [99])),(2,1,.s 74)])),(zg 76 70 true (.call (.c (.fn 27)) [.s 71,.s 75])),(zo 77 (.pick (.s 70) (.s 76) cF)),(mv 78 77),(mg 79 78 true 8),(zo 80 (.pick (.s 78) (.s 79) cF)),(mv 81 80),(zg 82 81 true (.load 3 true (.s 7))),(zg 83 81 true (.buildSl 9 1 1 (.cons (.str []) .nil) [(0,1,.c (.str [115,49]))])),(zg 84 81 true (.build (.cons (.nilsl) (.cons (.str []) (.cons (.nilsl) .nil))) [(0,1,.s 83)])),(zg 85 81 true (.call (.c (.fn 27)) [.s 82,.s 84])),(zo 86 (.pick (.s 81) (.s 85) cF)),(mv 87 86),(mg 88 87 true 10),(zg 89 87 true (.not (.s 88))),(zo 90 (.pick (.s 87) (.s 89) cF)),(mv 12 90)]) (.seq (.region g10 [(mv 91 1),(zo 92 (.build (.cons (.str []) (.cons (.str []) .nil)) [(0,1,.c (.str [97,98])),(1,1,.c (.str [115,50]))])),(zo 93 (.call (.c (.fn 15)) [.s 91,.s 92])),(mv 13 93)]) (.seq (.region g10 [(mv 94 1),(zo 95 (.build (.cons (.str []) (.cons (.str []) .nil)) [(0,1,.c (.str [97,98])),(1,1,.c (.str [115,51]))])),(zo 96 (.call (.c (.fn 14)) [.s 94,.s 95])),(mv 14 96)]) (.seq (.region g10 [(mv 97 1),(zo 98 (.call (.c (.fn 16)) [.s 97])),(mv 15 98)]) (.seq (.drawn g10 (.pure 0 (mv 99 12) (.pure 1 (mv 100 99) (.pure 2 (zg 101 100 true (.load 3 true (.s 7))) (.pure 4 (mg 103 100 true 11) (.eff 3 (zg 102 100 true (.call (.c (.fn 19)) [.s 101])) [] (.pure 5 (zg 104 100 true (.bin (.eql) (.s 102) (.s 103))) (.pure 6 (zo 105 (.pick (.s 100) (.s 104) cF)) (.pure 7 (mv 106 105) (.pure 8 (fg 107 106 true 2 3) (.pure 9 (lg 108 106 true 107) (.pure 10 (zg 109 106 true (.idxSl 1 (.s 108) (cj 0))) (.pure 11 (lg 110 106 true 109) (.pure 12 (zg 111 106 true (.load 3 true (.s 5))) (.eff 13 (zg 112 106 true (.call (.c (.fn 19)) [.s 111])) [(lg 110 106 true 109),(lg 108 106 true 107)] (.pure 14 (zg 113 106 true (.bin (.eql) (.s 110) (.s 112))) (.pure 15 (zo 114 (.pick (.s 106) (.s 113) cF)) (.pure 16 (mv 115 114) (.pure 17 (mg 116 115 true 13) (.pure 18 (zg 117 115 true (.bin (.eql) (.s 116) (cj 8))) (.pure 19 (zo 118 (.pick (.s 115) (.s 117) cF)) (.pure 20 (mv 119 118) (.pure 21 (mg 120 119 true 14) (.pure 22 (zg 121 119 true (.bin (.eql) (.s 120) (cj 10))) (.pure 23 (zo 122 (.pick (.s 119) (.s 121) cF)) (.pure 24 (mv 123 122) (.pure 25 (mg 124 123 true 15) (.pure 26 (zg 125 123 true (.lenSl (.s 124))) (.pure 27 (zg 126 123 true (.bin (.eql) (.s 125) (cj 3))) (.pure 28 (zo 127 (.pick (.s 123) (.s 126) cF)) (.pure 29 (mv 128 127) (.pure 30 (mg 129 128 true 15) (.pure 31 (zg 130 128 true (.idxSl 2 (.s 129) (cj 0))) (.pure 32 (zg 131 128 true (.load 2 true (.s 130))) (.pure 33 (zg 132 128 true (.build (.cons (.str []) (.cons (.str []) .nil)) [(0,1,.c (.str [97,98])),(1,1,.c (.str [115,49]))])) (.pure 34 (zg 133 128 true (.eqS false [(0,2),(1,2)] (.s 131) (.s 132))) (.pure 35 (zo 134 (.pick (.s 128) (.s 133) cF)) (.pure 36 (mv 135 134) (.pure 37 (zg 136 135 true (.build (.cons (.nilsl) (.cons (.str []) (.cons (.nilsl) .nil))) [(1,1,.c (.str [97]))])) (.eff 38 (zg 137 135 true (.call (.c (.fn 19)) [.s 136])) [] (.pure 39 (zg 138 135 true (.bin (.eql) (.s 137) (.c (.str [])))) (.pure 40 (zo 139 (.pick (.s 135) (.s 138) cF)) (.pure 41 (mv 0 139) .done))) .none))))))))))))))))))))))))) .none))))))))) .none)))))) .ret))))))))))))
theorem e10:aS Tryz.prog 10 g10 [] [102,112,137] []=some (c10,[.slot 0],140):=by kernel_rfl
def Qr:Eng.Spec where
 X:=Unit
 args:=fun _=>.nil
 pre:=fun _=>True
 res:=fun _=>.bool true
 inst:=fun _=>some ()
attribute [local irreducible] D9.Dd D6.lD
set_option maxHeartbeats 1000000 in
theorem Ox:Qr.Ok Tryz.prog 10:=by
 refine Eng.Spec.okR e10 .nil (fun _=>[(34,.m Q4),(11,.m (Ta Dd)),(25,.m Qz),(35,.m Lq),(27,.m Q2),(15,.m ptS),(14,.m dtS),(16,.m Qt),(19,.m R5),(2097152,.own)]) (fun _ _=>aF.m Pw (aF.m (Ly Dd) (aF.m Pm (aF.m (Bq D8.tO) (aF.m Mu (aF.m Q0 (aF.m Qi (aF.m O7 (aF.m Gh (aF.o aF.nil)))))))))) ?_
 rintro ⟨⟩ _
 refine ⟨trivial,?_⟩
 repeat' (first|apply And.intro|exact trivial|exact rfl|(exact fun (h:false=true)=>Bool.noConfusion h)|(refine fun (_:false=false)=>?_)|(exact fun (h:true=false)=>Bool.noConfusion h)|(refine fun (_:true=true)=>?_)|fail)
 refine Exists.intro () (Exists.intro [] ?_)
 repeat' (first|apply And.intro|exact trivial|exact rfl|(exact fun (h:false=true)=>Bool.noConfusion h)|(refine fun (_:false=false)=>?_)|(exact fun (h:true=false)=>Bool.noConfusion h)|(refine fun (_:true=true)=>?_)|fail)
 refine fun (_:Unit) (_:True)=>?_
 repeat' (first|apply And.intro|exact trivial|exact rfl|(exact fun (h:false=true)=>Bool.noConfusion h)|(refine fun (_:false=false)=>?_)|(exact fun (h:true=false)=>Bool.noConfusion h)|(refine fun (_:true=true)=>?_)|fail)
 refine Exists.intro tA (Exists.intro [] ?_)
 have hpn:tA.length < 4611686018427387904/\∀ j,j < tA.length->(tA.getD j k0).1.length < 4611686018427387904:=by
  refine ⟨by decide,fun j hj=>?_⟩
  replace hj:j < 3:=hj
  have hc:j=0\/j=1\/j=2:=by omega
  rcases hc with rfl|rfl|rfl <;> decide
 repeat' (first|exact hpn|apply And.intro|exact trivial|exact rfl|(exact fun (h:false=true)=>Bool.noConfusion h)|(refine fun (_:false=false)=>?_)|(exact fun (h:true=false)=>Bool.noConfusion h)|(refine fun (_:true=true)=>?_)|exact Nat.le_refl 3|exact (fun (j:Nat) _=>by rw [Nat.zero_add]; exact Or.inl (aU _ _ _ _))|fail)
 refine fun (y:NY) (hy:(y.e=(eN tA).1/\y.o=decide (y.e=0))/\(y.o=true->Tr Dd (eN tA).2 y.N y.c y.r y.K/\0<=y.K/\y.K<=20000000))=>?_
 rw [L7] at hy
 obtain ⟨e,o,N,c,r,K⟩:=y
 obtain ⟨⟨(rfl:e=0),(ho:o=decide ((0:Int)=0))⟩,htr⟩:=hy
 obtain rfl:o=true:=ho.trans (by decide)
 obtain ⟨(htr:Tr Dd T0 N c r K),(hK0:0<=K),(hK1:K<=20000000)⟩:=htr rfl
 clear ho
 repeat' (first|apply And.intro|exact trivial|exact rfl|exact fun (i:Nat)=>aC (by exact rfl) (N i)|exact fun (i:Nat)=>aD (by exact rfl) (by exact rfl) (N i)|(exact fun (h:false=true)=>Bool.noConfusion h)|(refine fun (_:false=false)=>?_)|(exact fun (h:true=false)=>Bool.noConfusion h)|(refine fun (_:true=true)=>?_)|fail)
 obtain ⟨dB,hdB⟩:∃ d,lR Dd TB=d:=⟨_,rfl⟩
 obtain ⟨lf,hlf⟩:∃ d,lD L0=d:=⟨_,rfl⟩
 obtain ⟨F1,hd1,hF1⟩:=htr.dok (by decide)
 have hn1:DOk (htT T0) ⟨N,T0,r,F1⟩/\Cl N c/\([97]:B).length<=1000000:=⟨hd1,htr.ok.cl,by decide⟩
 refine Exists.intro ⟨⟨N,T0,r,F1⟩,c,[97]⟩ (Exists.intro [1,2] ?_)
 repeat' (first|exact hn1|apply And.intro|exact trivial|exact rfl|exact fun (i:Nat)=>aC (by exact rfl) (N i)|exact fun (i:Nat)=>aD (by exact rfl) (by exact rfl) (N i)|(exact fun (h:false=true)=>Bool.noConfusion h)|(refine fun (_:false=false)=>?_)|(exact fun (h:true=false)=>Bool.noConfusion h)|(refine fun (_:true=true)=>?_)|exact fun (j:Nat) (hj:j < _)=>Or.inl (aN _ _ _ _)|fail)
 refine fun (y:(Nat->NO)×ND×Bool) (hy:DPo ⟨N,T0,r,F1⟩ y.1/\y.2.1=ndO (cM [97] T0)/\y.2.2=(cM [97] T0).isSome)=>?_
 obtain ⟨N1,nd,b⟩:=y
 obtain ⟨(hq1:DPo ⟨N,T0,r,F1⟩ N1),(hnd:nd=_),(hb:b=_)⟩:=hy
 rw [V8] at hnd
 replace hb:b=true:=hb
 rw [hdB] at hnd
 subst hnd hb
 have htr1:Tr Dd T0 N1 c r K:=htr.mark hF1 hq1
 clear hq1 hn1 hd1 hF1
 repeat' (first|apply And.intro|exact trivial|exact rfl|exact fun (i:Nat)=>aC (by exact rfl) (N1 i)|exact fun (i:Nat)=>aD (by exact rfl) (by exact rfl) (N1 i)|(exact fun (h:false=true)=>Bool.noConfusion h)|(refine fun (_:false=false)=>?_)|(exact fun (h:true=false)=>Bool.noConfusion h)|(refine fun (_:true=true)=>?_)|exact fun (j:Nat) (hj:j < _)=>Or.inl (aN _ _ _ _)|fail)
 obtain ⟨F2,hd2,hF2⟩:=htr1.dok (by decide)
 have hn2:DOk (htT T0) ⟨N1,T0,r,F2⟩/\Cl N1 c/\([97,98]:B).length<=1000000:=⟨hd2,htr1.ok.cl,by decide⟩
 refine Exists.intro ⟨⟨N1,T0,r,F2⟩,c,[97,98]⟩ (Exists.intro [1,2] ?_)
 repeat' (first|exact hn2|apply And.intro|exact trivial|exact rfl|exact fun (i:Nat)=>aC (by exact rfl) (N1 i)|exact fun (i:Nat)=>aD (by exact rfl) (by exact rfl) (N1 i)|(exact fun (h:false=true)=>Bool.noConfusion h)|(refine fun (_:false=false)=>?_)|(exact fun (h:true=false)=>Bool.noConfusion h)|(refine fun (_:true=true)=>?_)|exact fun (j:Nat) (hj:j < _)=>Or.inl (aN _ _ _ _)|fail)
 refine fun (y:(Nat->NO)×ND×Bool) (hy:DPo ⟨N1,T0,r,F2⟩ y.1/\y.2.1=ndO (cM [97,98] T0)/\y.2.2=(cM [97,98] T0).isSome)=>?_
 obtain ⟨N2,nd,b⟩:=y
 obtain ⟨(hq2:DPo ⟨N1,T0,r,F2⟩ N2),(hnd:nd=_),(hb:b=_)⟩:=hy
 rw [V9] at hnd
 replace hb:b=true:=hb
 rw [zG,hlf] at hnd
 subst hnd hb
 have htr2:Tr Dd T0 N2 c r K:=htr1.mark hF2 hq2
 clear hq2 hn2 hd2 hF2
 repeat' (first|apply And.intro|exact trivial|exact rfl|exact fun (i:Nat)=>aC (by exact rfl) (N2 i)|exact fun (i:Nat)=>aD (by exact rfl) (by exact rfl) (N2 i)|(exact fun (h:false=true)=>Bool.noConfusion h)|(refine fun (_:false=false)=>?_)|(exact fun (h:true=false)=>Bool.noConfusion h)|(refine fun (_:true=true)=>?_)|exact fun (j:Nat) (hj:j < _)=>Or.inl (aN _ _ _ _)|fail)
 obtain ⟨F3,hd3,hF3⟩:=htr2.dok (by decide)
 have hn3:DOk (htT T0) ⟨N2,T0,r,F3⟩/\Cl N2 c/\([97,98,99]:B).length<=1000000:=⟨hd3,htr2.ok.cl,by decide⟩
 refine Exists.intro ⟨⟨N2,T0,r,F3⟩,c,[97,98,99]⟩ (Exists.intro [1,2] ?_)
 repeat' (first|exact hn3|apply And.intro|exact trivial|exact rfl|exact fun (i:Nat)=>aC (by exact rfl) (N2 i)|exact fun (i:Nat)=>aD (by exact rfl) (by exact rfl) (N2 i)|(exact fun (h:false=true)=>Bool.noConfusion h)|(refine fun (_:false=false)=>?_)|(exact fun (h:true=false)=>Bool.noConfusion h)|(refine fun (_:true=true)=>?_)|exact fun (j:Nat) (hj:j < _)=>Or.inl (aN _ _ _ _)|fail)
 refine fun (y:(Nat->NO)×ND×Bool) (hy:DPo ⟨N2,T0,r,F3⟩ y.1/\y.2.1=ndO (cM [97,98,99] T0)/\y.2.2=(cM [97,98,99] T0).isSome)=>?_
 obtain ⟨N3,nd,b⟩:=y
 obtain ⟨(hq3:DPo ⟨N2,T0,r,F3⟩ N3),(hnd:nd=_),(hb:b=_)⟩:=hy
 rw [Wa] at hnd
 replace hb:b=true:=hb
 subst hnd hb
 have htr3:Tr Dd T0 N3 c r K:=htr2.mark hF3 hq3
 clear hq3 hn3 hd3 hF3
 repeat' (first|apply And.intro|exact trivial|exact rfl|exact fun (i:Nat)=>aC (by exact rfl) (N3 i)|exact fun (i:Nat)=>aD (by exact rfl) (by exact rfl) (N3 i)|(exact fun (h:false=true)=>Bool.noConfusion h)|(refine fun (_:false=false)=>?_)|(exact fun (h:true=false)=>Bool.noConfusion h)|(refine fun (_:true=true)=>?_)|exact fun (j:Nat) (hj:j < _)=>Or.inl (aN _ _ _ _)|fail)
 obtain ⟨F4,hd4,hF4⟩:=htr3.dok (by decide)
 have hn4:DOk (htT T0) ⟨N3,T0,r,F4⟩/\Cl N3 c/\([98]:B).length<=1000000:=⟨hd4,htr3.ok.cl,by decide⟩
 refine Exists.intro ⟨⟨N3,T0,r,F4⟩,c,[98]⟩ (Exists.intro [1,2] ?_)
 repeat' (first|exact hn4|apply And.intro|exact trivial|exact rfl|exact fun (i:Nat)=>aC (by exact rfl) (N3 i)|exact fun (i:Nat)=>aD (by exact rfl) (by exact rfl) (N3 i)|(exact fun (h:false=true)=>Bool.noConfusion h)|(refine fun (_:false=false)=>?_)|(exact fun (h:true=false)=>Bool.noConfusion h)|(refine fun (_:true=true)=>?_)|exact fun (j:Nat) (hj:j < _)=>Or.inl (aN _ _ _ _)|fail)
 refine fun (y:(Nat->NO)×ND×Bool) (hy:DPo ⟨N3,T0,r,F4⟩ y.1/\y.2.1=ndO (cM [98] T0)/\y.2.2=(cM [98] T0).isSome)=>?_
 obtain ⟨N4,nd,b⟩:=y
 obtain ⟨(hq4:DPo ⟨N3,T0,r,F4⟩ N4),(hnd:nd=_),(hb:b=_)⟩:=hy
 rw [Wb] at hnd
 replace hb:b=false:=hb
 subst hnd hb
 have htr4:Tr Dd T0 N4 c r K:=htr3.mark hF4 hq4
 clear hq4 hn4 hd4 hF4
 repeat' (first|apply And.intro|exact trivial|exact rfl|exact fun (i:Nat)=>aC (by exact rfl) (N4 i)|exact fun (i:Nat)=>aD (by exact rfl) (by exact rfl) (N4 i)|(exact fun (h:false=true)=>Bool.noConfusion h)|(refine fun (_:false=false)=>?_)|(exact fun (h:true=false)=>Bool.noConfusion h)|(refine fun (_:true=true)=>?_)|exact fun (j:Nat) (hj:j < _)=>Or.inl (aN _ _ _ _)|fail)
 have hl0:L0.length<=1000000/\(dR L0).length<=140737488355328:=⟨by decide,Nat.le_trans (qO (M:=4) (by decide) (by decide)) (by decide)⟩
 refine Exists.intro L0 (Exists.intro [] ?_)
 repeat' (first|exact hl0|apply And.intro|exact trivial|exact rfl|(exact fun (h:false=true)=>Bool.noConfusion h)|(refine fun (_:false=false)=>?_)|(exact fun (h:true=false)=>Bool.noConfusion h)|(refine fun (_:true=true)=>?_)|exact Nat.le_refl 3|exact lit3|fail)
 refine fun (leaf:B) (hleaf:leaf=lD L0)=>?_
 obtain rfl:leaf=lf:=hleaf.trans hlf
 clear hleaf
 repeat' (first|apply And.intro|exact trivial|exact rfl|(exact fun (h:false=true)=>Bool.noConfusion h)|(refine fun (_:false=false)=>?_)|(exact fun (h:true=false)=>Bool.noConfusion h)|(refine fun (_:true=true)=>?_)|exact fun (j:Nat) (hj:j < _)=>Or.inl (aN _ _ _ _)|fail)
 have hs1:(⟨[[115,49],[115,50]],[99],[leaf]⟩:ND).ids.length < 4611686018427387904/\(⟨[[115,49],[115,50]],[99],[leaf]⟩:ND).kids.length < 4611686018427387904:=⟨by show 2 < _; decide,by show 1 < _; decide⟩
 refine Exists.intro (⟨[[115,49],[115,50]],[99],[leaf]⟩,⟨[[115,49],[115,50]],[99],[leaf]⟩) (Exists.intro [] ?_)
 repeat' (first|exact hs1|apply And.intro|exact trivial|exact rfl|(exact fun (h:false=true)=>Bool.noConfusion h)|(refine fun (_:false=false)=>?_)|(exact fun (h:true=false)=>Bool.noConfusion h)|(refine fun (_:true=true)=>?_)|exact fun (j:Nat) (hj:j < _)=>Or.inl (aN _ _ _ _)|fail)
 ·exact Nat.le_refl 2
 ·exact (fun (i:Nat) _=>by rw [Nat.zero_add i]; exact Or.inl (aN _ _ _ _))
 ·exact Nat.le_refl 1
 ·exact (fun (i:Nat) _=>by rw [Nat.zero_add i]; exact Or.inl (aN _ _ _ _))
 ·exact Nat.le_refl 2
 ·exact lit2 _ _
 ·exact Nat.le_refl 1
 ·exact lit1 _
 refine fun (y1:Bool) (hy1:y1=decide (_=_))=>?_
 obtain rfl:y1=true:=hy1.trans (decide_eq_true rfl)
 clear hy1
 repeat' (first|apply And.intro|exact trivial|exact rfl|(exact fun (h:false=true)=>Bool.noConfusion h)|(refine fun (_:false=false)=>?_)|(exact fun (h:true=false)=>Bool.noConfusion h)|(refine fun (_:true=true)=>?_)|exact fun (j:Nat) (hj:j < _)=>Or.inl (aN _ _ _ _)|fail)
 have hs2:(⟨[[115,49]],[],[]⟩:ND).ids.length < 4611686018427387904/\(⟨[[115,49]],[],[]⟩:ND).kids.length < 4611686018427387904:=⟨by show 1 < _; decide,by show 0 < _; decide⟩
 refine Exists.intro (⟨[[115,49]],[],[]⟩,⟨[[115,49]],[],[]⟩) (Exists.intro [] ?_)
 repeat' (first|exact hs2|apply And.intro|exact trivial|exact rfl|(exact fun (h:false=true)=>Bool.noConfusion h)|(refine fun (_:false=false)=>?_)|(exact fun (h:true=false)=>Bool.noConfusion h)|(refine fun (_:true=true)=>?_)|exact fun (j:Nat) (hj:j < _)=>Or.inl (aN _ _ _ _)|fail)
 ·exact Nat.le_refl 1
 ·exact (fun (i:Nat) _=>by rw [Nat.zero_add i]; exact Or.inl (aN _ _ _ _))
 ·exact Nat.le_refl 0
 ·exact Nat.le_refl 1
 ·exact lit1 _
 refine fun (y1:Bool) (hy1:y1=decide (_=_))=>?_
 obtain rfl:y1=true:=hy1.trans (decide_eq_true rfl)
 clear hy1
 repeat' (first|apply And.intro|exact trivial|exact rfl|(exact fun (h:false=true)=>Bool.noConfusion h)|(refine fun (_:false=false)=>?_)|(exact fun (h:true=false)=>Bool.noConfusion h)|(refine fun (_:true=true)=>?_)|exact fun (j:Nat) (hj:j < _)=>Or.inl (aN _ _ _ _)|fail)
 have hpp:POk ⟨T0,N4,c,r,K,([97,98],[115,50])⟩:=⟨htr4,hK0,by show K<=_; omega,by show 2 < _; decide⟩
 refine Exists.intro ⟨T0,N4,c,r,K,([97,98],[115,50])⟩ (Exists.intro [1,2] ?_)
 repeat' (first|exact hpp|apply And.intro|exact trivial|exact rfl|(exact fun (h:false=true)=>Bool.noConfusion h)|(refine fun (_:false=false)=>?_)|(exact fun (h:true=false)=>Bool.noConfusion h)|(refine fun (_:true=true)=>?_)|exact fun (i:Nat)=>aC (by exact rfl) (N4 i)|exact fun (i:Nat)=>aD (by exact rfl) (by exact rfl) (N4 i)|fail)
 refine fun (y:(Nat->NO)×Nat×Int) (hy:Tr Dd (gS T0 ([97,98],[115,50])) y.1 y.2.1 r (K+1000)/\y.2.2=pcT T0 ([97,98],[115,50]))=>?_
 obtain ⟨N5,c5,f5⟩:=y
 obtain ⟨(htr5:Tr Dd (gS T0 _) N5 c5 r (K+1000)),(hf5:f5=pcT T0 _)⟩:=hy
 rw [Mj] at hf5
 rw [bN] at htr5
 subst hf5
 repeat' (first|apply And.intro|exact trivial|exact rfl|(exact fun (h:false=true)=>Bool.noConfusion h)|(refine fun (_:false=false)=>?_)|(exact fun (h:true=false)=>Bool.noConfusion h)|(refine fun (_:true=true)=>?_)|exact fun (i:Nat)=>aC (by exact rfl) (N5 i)|exact fun (i:Nat)=>aD (by exact rfl) (by exact rfl) (N5 i)|fail)
 have hpd:POk ⟨T0,N5,c5,r,K+1000,([97,98],[115,51])⟩:=⟨htr5,by show 0<=K+1000; omega,by show K+1000<=_; omega,by show 2 < _; decide⟩
 refine Exists.intro ⟨T0,N5,c5,r,K+1000,([97,98],[115,51])⟩ (Exists.intro [1,2] ?_)
 repeat' (first|exact hpd|apply And.intro|exact trivial|exact rfl|(exact fun (h:false=true)=>Bool.noConfusion h)|(refine fun (_:false=false)=>?_)|(exact fun (h:true=false)=>Bool.noConfusion h)|(refine fun (_:true=true)=>?_)|exact fun (i:Nat)=>aC (by exact rfl) (N5 i)|exact fun (i:Nat)=>aD (by exact rfl) (by exact rfl) (N5 i)|fail)
 refine fun (y:(Nat->NO)×Int) (hy:Tr Dd (iQ T0 ([97,98],[115,51])) y.1 c5 r (K+1000+1000)/\y.2=dcT T0 ([97,98],[115,51]))=>?_
 obtain ⟨N6,f6⟩:=y
 obtain ⟨(htr6:Tr Dd (iQ T0 _) N6 c5 r (K+1000+1000)),(hf6:f6=dcT T0 _)⟩:=hy
 rw [H7] at htr6
 rw [H6] at hf6
 subst hf6
 repeat' (first|apply And.intro|exact trivial|exact rfl|(exact fun (h:false=true)=>Bool.noConfusion h)|(refine fun (_:false=false)=>?_)|(exact fun (h:true=false)=>Bool.noConfusion h)|(refine fun (_:true=true)=>?_)|exact fun (i:Nat)=>aC (by exact rfl) (N6 i)|exact fun (i:Nat)=>aD (by exact rfl) (by exact rfl) (N6 i)|fail)
 have hkk:AOk (htT T0) ⟨N6,T0,r,[]⟩/\(dF [] T0).length<=1000000/\([]:B)=[]:=⟨htr6.aok (by decide),by decide,rfl⟩
 refine Exists.intro ⟨N6,T0,r,[]⟩ (Exists.intro [1,2] ?_)
 repeat' (first|exact hkk|apply And.intro|exact trivial|exact rfl|(exact fun (h:false=true)=>Bool.noConfusion h)|(refine fun (_:false=false)=>?_)|(exact fun (h:true=false)=>Bool.noConfusion h)|(refine fun (_:true=true)=>?_)|exact fun (i:Nat)=>aC (by exact rfl) (N6 i)|exact fun (i:Nat)=>aD (by exact rfl) (by exact rfl) (N6 i)|fail)
 refine fun (_:Unit) (_:True)=>?_
 repeat' (first|apply And.intro|exact trivial|exact rfl|(exact fun (h:false=true)=>Bool.noConfusion h)|(refine fun (_:false=false)=>?_)|(exact fun (h:true=false)=>Bool.noConfusion h)|(refine fun (_:true=true)=>?_)|exact fun (i:Nat)=>aC (by exact rfl) (N6 i)|exact fun (i:Nat)=>aD (by exact rfl) (by exact rfl) (N6 i)|fail)
 have hdp1:=yG (n:=⟨[[115,49]],[],[]⟩) (by decide) (by decide) (by decide) (by decide)
 refine Exists.intro ⟨[[115,49]],[],[]⟩ (Exists.intro [] ?_)
 repeat' (first|exact hdp1|apply And.intro|exact trivial|exact rfl|(exact fun (h:false=true)=>Bool.noConfusion h)|(refine fun (_:false=false)=>?_)|(exact fun (h:true=false)=>Bool.noConfusion h)|(refine fun (_:true=true)=>?_)|exact fun (j:Nat) (hj:j < _)=>Or.inl (aN _ _ _ _)|fail)
 ·exact Nat.le_refl 1
 ·exact (fun (i:Nat) _=>by rw [Nat.zero_add i]; exact Or.inl (aN _ _ _ _))
 ·exact Nat.le_refl 0
 refine fun (y3:B) (hy3:y3=jZ _)=>?_
 obtain rfl:y3=leaf:=hy3.trans (Uq.trans hlf)
 clear hy3
 repeat' (first|apply And.intro|exact trivial|exact rfl|(exact fun (h:false=true)=>Bool.noConfusion h)|(refine fun (_:false=false)=>?_)|(exact fun (h:true=false)=>Bool.noConfusion h)|(refine fun (_:true=true)=>?_)|exact fun (j:Nat) (hj:j < _)=>Or.inl (aN _ _ _ _)|fail)
 have hll:decide (y3=y3)=true:=decide_eq_true rfl
 all_goals first
  | exact fun h=>Bool.noConfusion (show true=false from h)
  | refine fun (_:aW _ _ _ _ _=true)=>?_
  | (refine fun (h:aW _ _ _ (decide (y3=y3)) _=false)=>?_; rw [hll] at h; exact Bool.noConfusion (show true=false from h))
  | skip
 ·refine And.intro (Int.le_refl 0) ?_
  show (0:Int) < ((1:Nat):Int)
  decide
 ·show 0 < 1
  decide
 ·have hdp2:=yG (n:=⟨[[115,49],[115,50]],[99],[y3]⟩) (by show 2<=10; decide) (by show 1<=10; decide) (by show ∀ i∈([[115,49],[115,50]]:List B),i.length<=1000000; decide) (fun i hi=>by
   obtain rfl:i=y3:=List.mem_singleton.1 hi
   rw [<- hlf,<- Uq]
   exact Gg _)
  refine Exists.intro ⟨[[115,49],[115,50]],[99],[y3]⟩ (Exists.intro [] ?_)
  repeat' (first|exact hdp2|apply And.intro|exact trivial|exact rfl|(exact fun (h:false=true)=>Bool.noConfusion h)|(refine fun (_:false=false)=>?_)|(exact fun (h:true=false)=>Bool.noConfusion h)|(refine fun (_:true=true)=>?_)|exact fun (j:Nat) (hj:j < _)=>Or.inl (aN _ _ _ _)|fail)
  ·exact Nat.le_refl 2
  ·exact (fun (i:Nat) _=>by rw [Nat.zero_add i]; exact Or.inl (aN _ _ _ _))
  ·exact Nat.le_refl 1
  ·exact (fun (i:Nat) _=>by rw [Nat.zero_add i]; exact Or.inl (aN _ _ _ _))
  refine fun (y4:B) (hy4:y4=jZ _)=>?_
  obtain rfl:y4=dB:=hy4.trans ((congrArg (fun z=>jZ ⟨[[115,49],[115,50]],[99],[z]⟩) hlf.symm).trans (Vz.trans hdB))
  clear hy4
  have hl3:decide (y3=y3)=true:=decide_eq_true rfl
  have hl4:decide (y4=y4)=true:=decide_eq_true rfl
  repeat' (first|apply And.intro|exact trivial|exact rfl|(exact fun (h:false=true)=>Bool.noConfusion h)|(refine fun (_:false=false)=>?_)|(exact fun (h:true=false)=>Bool.noConfusion h)|(refine fun (_:true=true)=>?_)|exact fun (j:Nat) (hj:j < _)=>Or.inl (aN _ _ _ _)|fail)
  all_goals first
   | (refine fun (h:aW _ _ _ _ _=false)=>?_; simp only at h; exact Bool.noConfusion (show true=false from h))
   | (refine fun (h:aW _ _ _ _ _=!true)=>?_; simp only at h; exact Bool.noConfusion (show true=false from h))
   | (refine fun (_:aW _ _ _ _ _=true)=>?_)
   | skip
  ·refine And.intro (Int.le_refl 0) ?_
   show (0:Int) < ((3:Nat):Int)
   decide
  ·show 0 < 3
   decide
  ·have hdp3:=yG (n:=⟨[],[97],[]⟩) (by decide) (by decide) (by decide) (by decide)
   refine Exists.intro ⟨[],[97],[]⟩ (Exists.intro [] ?_)
   repeat' (first|exact hdp3|apply And.intro|exact trivial|exact rfl|(exact fun (h:false=true)=>Bool.noConfusion h)|(refine fun (_:false=false)=>?_)|(exact fun (h:true=false)=>Bool.noConfusion h)|(refine fun (_:true=true)=>?_)|exact fun (j:Nat) (hj:j < _)=>Or.inl (aN _ _ _ _)|exact Nat.le_refl 0|fail)
   refine fun (y5:B) (hy5:y5=jZ _)=>?_
   obtain rfl:y5=[]:=hy5.trans V0
   clear hy5
   have he4:decide ([y4].getD (Nat.add 0 (Int.ofNat 0).toNat) []=y4)=true:=decide_eq_true rfl
   repeat' (first|apply And.intro|exact trivial|exact rfl|(exact fun (h:false=true)=>Bool.noConfusion h)|(refine fun (_:false=false)=>?_)|(exact fun (h:true=false)=>Bool.noConfusion h)|(refine fun (_:true=true)=>?_)|exact fun (j:Nat) (hj:j < _)=>Or.inl (aN _ _ _ _)|fail)
   exact (pk (pk (pk (pk (pk (pk (pk rfl hl3) he4) rfl) rfl) rfl) rfl) rfl:aW _ _ _ _ _=true)
  ·refine fun (h:aW _ _ _ _ _=!true)=>?_
   have he4:decide ([y4].getD (Nat.add 0 (Int.ofNat 0).toNat) []=y4)=true:=decide_eq_true rfl
   exact Bool.noConfusion (show false=true from h.symm.trans (pk (pk (pk (pk (pk (pk rfl hl3) he4) rfl) rfl) rfl) rfl))
 ·refine fun (h:aW _ _ _ (decide (y3=y3)) _=!true)=>?_
  rw [decide_eq_true (rfl:y3=y3)] at h
  exact Bool.noConfusion (show true=false from h)
end T34
end
section
open Go Go.Eng Go.Proofs T1 T2 T3 T4 T5 T10 T11 T12 T13 T14 T16 T17 T18 T19 T26 T31 D12 D13
set_option maxRecDepth 100000
namespace T35
theorem Hh:∀ {l m:List B},Srt l->Srt m->(∀ x,x∈l ↔ x∈m)->l=m
 | [],[],_,_,_=>rfl
 | [],y::m,_,_,h=>absurd ((h y).2 List.mem_cons_self) List.not_mem_nil
 | x::l,[],_,_,h=>absurd ((h x).1 List.mem_cons_self) List.not_mem_nil
 | x::l,y::m,h1,h2,h=>by
  have k1:=List.pairwise_cons.1 h1
  have k2:=List.pairwise_cons.1 h2
  have e:x=y:=by
   rcases List.mem_cons.1 ((h x).1 List.mem_cons_self) with e|e
   ·exact e
   ·rcases List.mem_cons.1 ((h y).2 List.mem_cons_self) with f|f
    ·exact f.symm
    ·have a:=k2.1 _ e
     have b:=k1.1 _ f
     rw [N7 a] at b
     cases b
  subst e
  refine congrArg (x::·) (Hh k1.2 k2.2 fun z=>?_)
  constructor
  ·intro hz
   rcases List.mem_cons.1 ((h z).1 (List.mem_cons_of_mem _ hz)) with e|e
   ·subst e; have:=k1.1 _ hz; rw [uA] at this; cases this
   ·exact e
  ·intro hz
   rcases List.mem_cons.1 ((h z).2 (List.mem_cons_of_mem _ hz)) with e|e
   ·subst e; have:=k2.1 _ hz; rw [uA] at this; cases this
   ·exact e
def Jt (t i:B) (b:UInt8) (k:TK):Prop:=∃ s,bQ k b=some s/\dJ t i s
mutual
theorem Fy:∀ (T T':TT),wfT T->wfT T'->(∀ t i,dJ t i T ↔ dJ t i T')->T=T'
 | .node ids k,.node ids' k',w,w',h=>by
  simp only [wfT] at w w'
  have e1:ids=ids':=Hh w.1 w'.1 fun i=>by have:=h [] i; rw [fQ,fQ] at this; exact this
  have e2:k=k':=Hm k k' w.2.1 w'.2.1 w.2.2 w'.2.2 fun b t i=>by have:=h (b::t) i; rw [cE,cE] at this; exact this
  rw [e1,e2]
theorem Hm:∀ (k k':TK),Sb (aQ k)->Sb (aQ k')->wfK k->wfK k'->(∀ b t i,Jt t i b k ↔ Jt t i b k')->k=k'
 | .nil,.nil,_,_,_,_,_=>rfl
 | .nil,.cons b s r,_,_,_,w',h=>by
  simp only [wfK] at w'
  obtain ⟨t,i,hm⟩:=lK w'.2.1 w'.1
  obtain ⟨s',e,_⟩:=(h b t i).2 ⟨s,by simp only [bQ,if_pos],hm⟩
  cases e
 | .cons b s r,.nil,_,_,w,_,h=>by
  simp only [wfK] at w
  obtain ⟨t,i,hm⟩:=lK w.2.1 w.1
  obtain ⟨s',e,_⟩:=(h b t i).1 ⟨s,by simp only [bQ,if_pos],hm⟩
  cases e
 | .cons b s r,.cons b' s' r',hs,hs',w,w',h=>by
  simp only [wfK] at w w'
  simp only [aQ] at hs hs'
  have p1:=List.pairwise_cons.1 hs
  have p2:=List.pairwise_cons.1 hs'
  have m1:b∈aQ (.cons b' s' r'):=by
   obtain ⟨t,i,hm⟩:=lK w.2.1 w.1
   obtain ⟨x,e,_⟩:=(h b t i).1 ⟨s,by simp only [bQ,if_pos],hm⟩
   exact jM e
  have m2:b'∈aQ (.cons b s r):=by
   obtain ⟨t,i,hm⟩:=lK w'.2.1 w'.1
   obtain ⟨x,e,_⟩:=(h b' t i).2 ⟨s',by simp only [bQ,if_pos],hm⟩
   exact jM e
  have e:b=b':=by
   simp only [aQ,List.mem_cons] at m1 m2
   rcases m1 with e|e
   ·exact e
   ·rcases m2 with f|f
    ·exact f.symm
    ·exact absurd (p1.1 _ f) (zJ (p2.1 _ e))
  subst e
  have es:s=s':=Fy s s' w.1 w'.1 fun t i=>by
   have:=h b t i
   unfold Jt at this
   simp only [bQ,if_true,Option.some.injEq,exists_eq_left'] at this
   exact this
  subst es
  have er:r=r':=Hm r r' p1.2 p2.2 w.2.2 w'.2.2 fun y t i=>by
   by_cases e:b=y
   ·subst e
    have n1:bQ r b=none:=kZ fun hm=>UInt8.lt_irrefl _ (p1.1 _ hm)
    have n2:bQ r' b=none:=kZ fun hm=>UInt8.lt_irrefl _ (p2.1 _ hm)
    unfold Jt
    rw [n1,n2]
   ·have:=h y t i
    unfold Jt at this ⊢
    simp only [bQ,if_neg e] at this
    exact this
  rw [er]
end
theorem Of {T:TT} {t i:B} (w:wfT T) (hm:¬ dJ t i T):fV i t (eM i t T)=T:=by
 have w1:=vT t w hm
 have m1:dJ t i (eM i t T):=(lY t w).2 (.inl ⟨rfl,rfl⟩)
 refine Fy _ _ (Aj t w1 m1) w fun t' i'=>?_
 rw [oG t w1 m1,lY t w]
 constructor
 ·rintro ⟨h|h,hn⟩
  ·exact absurd h hn
  ·exact h
 ·exact fun h=>⟨.inr h,fun e=>hm (by rw [<- e.1,<- e.2]; exact h)⟩
theorem Oy {T:TT} {t i:B} (w:wfT T) (hm:dJ t i T):eM i t (fV i t T)=T:=by
 have w1:=Aj t w hm
 have m1:¬ dJ t i (fV i t T):=fun h=>((oG t w hm).1 h).2 ⟨rfl,rfl⟩
 refine Fy _ _ (vT t w1 m1) w fun t' i'=>?_
 rw [lY t w1,oG t w hm]
 constructor
 ·rintro (⟨rfl,rfl⟩|h)
  ·exact hm
  ·exact h.1
 ·intro h
  by_cases e:t'=t/\i'=i
  ·exact .inl e
  ·exact .inr ⟨h,e⟩
theorem G7 {T:TT} {k:Ky}:pcT T k=0 ↔ iI k.1 k.2=true/\¬ dJ k.1 k.2 T/\szT T < 20000:=by
 rw [<- fY]
 unfold pcT
 cases h1:iI k.1 k.2 <;> cases h2:rT T k.1 k.2 <;> cases h3:decide (20000<=szT T) <;> simp_all <;> omega
theorem G5:∀ (l:List Ky) {T T':TT},zN l T=(0,T')->wfT T->wfT T'/\szT T'=szT T+l.length/\(∀ t i,dJ t i T' ↔ dJ t i T\/(t,i)∈l)
 | [],T,T',h,w=>by
  cases h
  exact ⟨w,rfl,fun t i=>by simp⟩
 | k::l,T,T',h,w=>by
  unfold zN at h
  by_cases e:pcT T k=0
  ·rw [if_pos e] at h
   have hz:=G7.1 e
   obtain ⟨h1,h2,h3⟩:=G5 l h (vT k.1 w hz.2.1)
   refine ⟨h1,?_,fun t i=>?_⟩
   ·rw [h2,nU k.1 w,List.length_cons]; omega
   ·rw [h3,lY k.1 w,List.mem_cons]
    obtain ⟨a,b⟩:=k
    simp only [Prod.mk.injEq]
    constructor
    ·rintro ((h|h)|h)
     ·exact .inr (.inl h)
     ·exact .inl h
     ·exact .inr (.inr h)
    ·rintro (h|h|h)
     ·exact .inl (.inr h)
     ·exact .inl (.inl h)
     ·exact .inr h
  ·rw [if_neg e] at h
   injection h with h1 _
   exact absurd h1 e
theorem Pk {l:List Ky} {T:TT} (h:T19.eN l=(0,T)):wfT T/\szT T=l.length/\∀ t i,dJ t i T ↔ (t,i)∈l:=by
 unfold T19.eN at h
 by_cases h1:20000 < l.length
 ·rw [if_pos h1] at h; cases h
 ·rw [if_neg h1] at h
  by_cases h2:l.any kQ=true
  ·rw [if_pos h2] at h; cases h
  ·rw [if_neg h2] at h
   obtain ⟨a,b,c⟩:=G5 l h pU
   refine ⟨a,by rw [b]; simp [emp,szT,szK],fun t i=>?_⟩
   rw [c]
   constructor
   ·rintro (h|h)
    ·exact absurd h zK
    ·exact h
   ·exact .inr
end T35
end
section
open Go Go.Eng Go.Proofs T1 T2 T3 T4 T5 T11 T12 T13 T14 T17 T18 T19 T23 T26 T31 T33 D3 D6 D9 D11 D12 D13 T30 T25 T35
set_option maxRecDepth 100000
namespace D14
theorem Wd {P:Program} {f:Nat} {S S':aM} (h:S.Ok P f) (e0:S'.nx0=S.nx0) (e1:S'.nx1=S.nx1) (ef:S'.fresh=S.fresh)
  (H:∀ x',S'.pre x'->∃ x,S.pre x/\S'.args x'=S.args x/\S'.h0 x'=S.h0 x/\∀ y,S.post x y->∃ y',S'.post x' y'/\S'.res x' y'=S.res x y/\S'.h1 x' y'=S.h1 x y):S'.Ok P f:=by
 refine ⟨h.call,?_⟩
 intro x' w μ vs T U hU hg hh hpr hR
 obtain ⟨x,k1,k2,k3,k4⟩:=H x' hpr
 rw [e0] at hg hh hR
 rw [k3] at hh hR
 rw [k2] at hR
 refine (h.does x w μ vs T U hU hg hh k1 hR).mono ?_
 intro e w' he
 cases e with
 | returned v =>
  obtain ⟨y,μ',h1,h2,h3,h4⟩:=he
  obtain ⟨y',j1,j2,j3⟩:=k4 y h1
  refine ⟨y',μ',j1,?_,?_,h4⟩
  ·rw [e0,e1,ef,j3]
   exact h2
  ·rw [e0,ef,j2,j3]
   exact h3
 | panicked c=>exact he.elim
 | outgrown=>exact he.elim
structure UX where
 T:TT
 N:Nat->NO
 c:Nat
 r:Nat
 K:Int
 p:B
structure UOk (x:UX):Prop where
 tr:Tr Dd x.T x.N x.c x.r x.K
 sz:szT x.T<=12
 ln:x.p.length<=1000000
def Vo:aM where
 X:=UX
 Y:=Nat->NO
 args:=fun _=>.cons (.own 0 0) .nil
 pre:=UOk
 h0:=fun x=>tH 0 1 x.r x.N
 nx0:=2
 post:=fun x y=>Tr Dd x.T y x.c x.r x.K
 res:=fun x _=>.str (lR Dd x.T)
 h1:=fun x y=>tH 0 1 x.r y
 nx1:=2
theorem Tj:Vo.Ok Tryz.prog 23:=by
 refine Wd Pt rfl rfl rfl ?_
 rintro x ⟨h1,h2,_⟩
 obtain ⟨F,hd,hF⟩:=h1.dok h2
 exact ⟨⟨x.N,x.T,x.r,F⟩,hd,rfl,rfl,fun y hy=>⟨y,h1.mark hF hy,rfl,rfl⟩⟩
end D14
end
section
open Go Go.Eng Go.Proofs T1 T2 T3 T4 T5 T6 T7 T8 T9 T10 T11 T12 T13 T14 T17 T18 T19 T20 T22 T23 T24 T25 T26 T27 T28 T30 T31 T33 D3 D6 D9 D10 D11 D12 D13 D14 T34 T35
set_option maxRecDepth 100000
namespace T36
def g5:List Nat:=[1,0,7,27,34,33,49,5,8,6,3,4]
def c5:aH :=
 .seq (.region g5 [(zo 3 (.box 32 (.s 1))),(zo 4 (.move cF))]) (.seq (.region g5 [(zo 9 (.call (.c (.fn 10)) [])),(mv 5 9)]) (.seq (.region g5 [(mv 11 0),(zo 12 (.call (.c (.fn 11)) [.s 11])),(mv 10 12),(zo 13 (.extract 0 (.s 10))),(zo 14 (.extract 1 (.s 10))),(mv 6 13),(mv 7 14)]) (.seq (.seq (.region g5 [(mv 15 0),(zo 16 (.call (.c (.fn 17)) [.s 15,cj 12])),(zo 17 (.not (.s 16))),(mv 18 17),(zg 19 18 false (.load 2 true (.s 3))),(zg 20 18 false (.buildSl 32 2 1 (.cons (.str []) (.cons (.str []) .nil)) [(0,2,.s 19)])),(zg 21 18 false (.call (.c (.fn 17)) [.s 20,cj 1])),(zg 22 18 false (.not (.s 21))),(zo 23 (.pick (.s 18) cT (.s 22))),(mv 24 23),(mg 25 24 false 7),(zg 26 24 false (.bin (.neq) (.s 25) (cj 0))),(zo 27 (.pick (.s 24) cT (.s 26)))]) (.cond (.s 27) (.seq (.region g5 [(mv 28 5),(mv 4 28)]) .ret) .skip)) (.seq (.region g5 [(mv 29 6),(zo 30 (.call (.c (.fn 23)) [.s 29])),(mv 8 30)]) (.seq (.seq (.region g5 [(mv 31 6),(zo 32 (.load 2 true (.s 3))),(zo 33 (.call (.c (.fn 15)) [.s 31,.s 32]))]) (.block 0 (.seq (.region g5 [(zo 35 (.bin (.eql) (.s 33) (cj 0))),(mv 34 35)]) (.cond (.s 34) (.seq (.region g5 [(mv 36 5),(mv 37 36),(mg 38 37 true 6),(zg 39 37 true (.load 2 true (.s 3))),(zg 40 37 true (.call (.c (.fn 14)) [.s 38,.s 39])),(zg 41 37 true (.bin (.eql) (.s 40) (cj 0))),(zo 42 (.pick (.s 37) (.s 41) cF)),(mv 43 42),(mg 44 43 true 6),(zg 45 43 true (.call (.c (.fn 23)) [.s 44])),(mg 46 43 true 8),(zg 47 43 true (.bin (.eql) (.s 45) (.s 46))),(zo 48 (.pick (.s 43) (.s 47) cF)),(mv 4 48)]) .ret) (.seq (.region g5 [(zo 50 (.bin (.eql) (.s 33) (cj 8))),(mv 49 50)]) (.cond (.s 49) (.seq (.region g5 [(mv 51 5),(mv 52 51),(mg 53 52 true 6),(zg 54 52 true (.load 2 true (.s 3))),(zg 55 52 true (.call (.c (.fn 14)) [.s 53,.s 54])),(zg 56 52 true (.bin (.eql) (.s 55) (cj 0))),(zo 57 (.pick (.s 52) (.s 56) cF)),(mv 58 57),(mg 59 58 true 6),(zg 60 58 true (.load 2 true (.s 3))),(zg 61 58 true (.call (.c (.fn 15)) [.s 59,.s 60])),(zg 62 58 true (.bin (.eql) (.s 61) (cj 0))),(zo 63 (.pick (.s 58) (.s 62) cF)),(mv 64 63),(mg 65 64 true 6),(zg 66 64 true (.call (.c (.fn 23)) [.s 65])),(mg 67 64 true 8),(zg 68 64 true (.bin (.eql) (.s 66) (.s 67))),(zo 69 (.pick (.s 64) (.s 68) cF)),(mv 4 69)]) .ret) .skip)))))) (.seq (.region g5 [(mv 70 5),(mv 71 70),(mg 72 71 true 6),(zg 73 71 true (.call (.c (.fn 23)) [.s 72])),(mg 74 71 true 8),(zg 75 71 true (.bin (.eql) (.s 73) (.s 74))),(zo 76 (.pick (.s 71) (.s 75) cF)),(mv 77 76),(mg 78 77 true 6),(zg 79 77 true (.load 2 true (.s 3))),(zg 80 77 true (.call (.c (.fn 14)) [.s 78,.s 79])),(zg 81 77 true (.bin (.eql) (.s 80) (cj 10))),(zo 82 (.pick (.s 77) (.s 81) cF)),(mv 4 82)]) .ret))))))
theorem e5:aS Tryz.prog 5 g5 [] [] []=some (c5,[.slot 4],83):=by kernel_rfl
def Ue:Eng.Spec where
 X:=List Ky×Ky
 args:=fun x=>.cons (ksE x.1) (.cons (.agg (wC x.2)) .nil)
 pre:=fun x=>(x.1.length < 4611686018427387904/\∀ j,j < x.1.length->(x.1.getD j k0).1.length < 4611686018427387904)/\x.2.1.length < 4611686018427387904
 res:=fun _=>.bool true
 inst:=fun _=>none
theorem Md {T:TT} {k:Ky} (hs:szT T<=12) (hv:∀ t i,dJ t i T->iI t i=true) :
  (pcT T k=0/\¬ dJ k.1 k.2 T/\gS T k=eM k.2 k.1 T)\/(pcT T k=8/\dJ k.1 k.2 T/\gS T k=T)\/(pcT T k=1/\¬ dJ k.1 k.2 T/\gS T k=T):=by
 have hd:decide (20000<=szT T)=false:=decide_eq_false (by omega)
 cases h1:iI k.1 k.2 with
 | false =>
  have e:pcT T k=1:=by unfold pcT; rw [h1]; rfl
  refine .inr (.inr ⟨e,fun hm=>?_,?_⟩)
  ·rw [hv _ _ hm] at h1; cases h1
  ·unfold gS; rw [if_neg (by rw [e]; decide)]
 | true =>
  cases h2:rT T k.1 k.2 with
  | false =>
   have e:pcT T k=0:=by unfold pcT; rw [h1,h2,hd]; rfl
   refine .inl ⟨e,fun hm=>?_,?_⟩
   ·rw [fY.2 hm] at h2; cases h2
   ·unfold gS; rw [if_pos e]
  | true =>
   have e:pcT T k=8:=by unfold pcT; rw [h1,h2]; rfl
   refine .inr (.inl ⟨e,fY.1 h2,?_⟩)
   unfold gS; rw [if_neg (by rw [e]; decide)]
theorem yF {T:TT} {k:Ky} (h:dJ k.1 k.2 T):dcT T k=0/\iQ T k=fV k.2 k.1 T:=by
 have:=fY.2 h
 unfold dcT iQ
 rw [this]
 exact ⟨rfl,rfl⟩
theorem Uo {T:TT} {k:Ky} (h:¬ dJ k.1 k.2 T):dcT T k=10/\iQ T k=T:=by
 have:rT T k.1 k.2=false:=by
  cases e:rT T k.1 k.2 with
  | false=>rfl
  | true=>exact absurd (fY.1 e) h
 unfold dcT iQ
 rw [this]
 exact ⟨rfl,rfl⟩
attribute [local irreducible] D9.Dd D6.lD lR T19.eN
set_option maxHeartbeats 1000000 in
theorem Nz:Ue.Ok Tryz.prog 5:=by
 refine Eng.Spec.okR e5 .nil (fun _=>[(10,.p Qr),(11,.m (Ta Dd)),(17,.m Ux),(23,.m Vo),(15,.m ptS),(14,.m dtS)]) (fun _ _=>aF.p Ox (aF.m (Ly Dd) (aF.m Ol (aF.m Tj (aF.m Q0 (aF.m Qi aF.nil)))))) ?_
 rintro ⟨l,k⟩ ⟨(hpn:l.length < 4611686018427387904/\∀ j,j < l.length->(l.getD j k0).1.length < 4611686018427387904),(hk:k.1.length < 4611686018427387904)⟩
 refine ⟨trivial,?_⟩
 repeat' (first|apply And.intro|exact trivial|exact rfl|(exact fun (h:false=true)=>Bool.noConfusion h)|(refine fun (_:false=false)=>?_)|(exact fun (h:true=false)=>Bool.noConfusion h)|(refine fun (_:true=true)=>?_)|fail)
 refine Exists.intro l (Exists.intro [] ?_)
 repeat' (first|exact hpn|apply And.intro|exact trivial|exact rfl|(exact fun (h:false=true)=>Bool.noConfusion h)|(refine fun (_:false=false)=>?_)|(exact fun (h:true=false)=>Bool.noConfusion h)|(refine fun (_:true=true)=>?_)|exact fun (j:Nat) (hj:j < _)=>Or.inl (aU _ _ _ _)|fail)
 refine fun (y:NY) (hy:(y.e=(T19.eN l).1/\y.o=decide (y.e=0))/\(y.o=true->Tr Dd (T19.eN l).2 y.N y.c y.r y.K/\0<=y.K/\y.K<=20000000))=>?_
 obtain ⟨e,o,N,c,r,K⟩:=y
 obtain ⟨⟨(he:e=(T19.eN l).1),(ho:o=decide (e=0))⟩,htr⟩:=hy
 have hone:[k].length < 4611686018427387904:=(by decide:1 < 4611686018427387904)
 have hl:l.length < 4611686018427387904:=hpn.1
 cases o with
 | false =>
  have hne:decide (e=0)=false:=ho.symm
  repeat' (first|apply And.intro|exact trivial|exact rfl|(exact fun (h:false=true)=>Bool.noConfusion h)|(refine fun (_:false=false)=>?_)|(exact fun (h:true=false)=>Bool.noConfusion h)|(refine fun (_:true=true)=>?_)|fail)
  refine Exists.intro (l,12) (Exists.intro [] ?_)
  repeat' (first|exact hl|apply And.intro|exact trivial|exact rfl|(exact fun (h:false=true)=>Bool.noConfusion h)|(refine fun (_:false=false)=>?_)|(exact fun (h:true=false)=>Bool.noConfusion h)|(refine fun (_:true=true)=>?_)|exact fun (j:Nat) (hj:j < _)=>Or.inl (aU _ _ _ _)|fail)
  refine fun (y:Bool) (hy:y=uH l 12)=>?_
  clear hy
  cases y
  ·repeat' (first|apply And.intro|exact trivial|exact rfl|(exact fun (h:false=true)=>Bool.noConfusion h)|(refine fun (_:false=false)=>?_)|(exact fun (h:true=false)=>Bool.noConfusion h)|(refine fun (_:true=true)=>?_)|exact fun (j:Nat) (hj:j < _)=>Or.inl (aU _ _ _ _)|fail)
  ·repeat' (first|apply And.intro|exact trivial|exact rfl|(exact fun (h:false=true)=>Bool.noConfusion h)|(refine fun (_:false=false)=>?_)|(exact fun (h:true=false)=>Bool.noConfusion h)|(refine fun (_:true=true)=>?_)|exact fun (j:Nat) (hj:j < _)=>Or.inl (aU _ _ _ _)|fail)
   refine Exists.intro ([k],1) (Exists.intro [] ?_)
   repeat' (first|exact hone|apply And.intro|exact trivial|exact rfl|(exact fun (h:false=true)=>Bool.noConfusion h)|(refine fun (_:false=false)=>?_)|(exact fun (h:true=false)=>Bool.noConfusion h)|(refine fun (_:true=true)=>?_)|exact fun (j:Nat) (hj:j < _)=>Or.inl (aU _ _ _ _)|(refine fun (j:Nat) (hj:j < 1)=>?_; obtain rfl:j=0:=(by omega); exact Or.inl (aU _ _ _ _))|fail)
   refine fun (y:Bool) (hy:y=uH [k] 1)=>?_
   clear hy
   cases y
   ·repeat' (first|apply And.intro|exact trivial|exact rfl|(exact fun (h:false=true)=>Bool.noConfusion h)|(refine fun (_:false=false)=>?_)|(exact fun (h:true=false)=>Bool.noConfusion h)|(refine fun (_:true=true)=>?_)|exact fun (j:Nat) (hj:j < _)=>Or.inl (aU _ _ _ _)|fail)
   ·repeat' (first|apply And.intro|exact trivial|exact rfl|(exact fun (h:false=true)=>Bool.noConfusion h)|(refine fun (_:false=false)=>?_)|(exact fun (h:true=false)=>Bool.noConfusion h)|(refine fun (_:true=true)=>?_)|exact fun (j:Nat) (hj:j < _)=>Or.inl (aU _ _ _ _)|fail)
    ·refine fun (_:aW _ _ _ _ _=true)=>?_
     repeat' (first|apply And.intro|exact trivial|exact rfl|(exact fun (h:false=true)=>Bool.noConfusion h)|(refine fun (_:false=false)=>?_)|(exact fun (h:true=false)=>Bool.noConfusion h)|(refine fun (_:true=true)=>?_)|exact fun (j:Nat) (hj:j < _)=>Or.inl (aU _ _ _ _)|fail)
    ·refine fun (h:aW _ _ _ true (!decide (e=0))=false)=>?_
     rw [hne] at h
     exact Bool.noConfusion (show true=false from h)
 | true =>
  have he0:e=0:=of_decide_eq_true ho.symm
  subst he0
  obtain ⟨(htr:Tr Dd (T19.eN l).2 N c r K),(hK0:0<=K),(hK1:K<=20000000)⟩:=htr rfl
  obtain ⟨T,hT⟩:∃ T,T19.eN l=(0,T):=⟨(T19.eN l).2,by rw [he]⟩
  rw [hT] at htr
  obtain ⟨w,hsz,hmem⟩:=Pk hT
  repeat' (first|apply And.intro|exact trivial|exact rfl|(exact fun (h:false=true)=>Bool.noConfusion h)|(refine fun (_:false=false)=>?_)|(exact fun (h:true=false)=>Bool.noConfusion h)|(refine fun (_:true=true)=>?_)|fail)
  refine Exists.intro (l,12) (Exists.intro [] ?_)
  repeat' (first|exact hl|apply And.intro|exact trivial|exact rfl|(exact fun (h:false=true)=>Bool.noConfusion h)|(refine fun (_:false=false)=>?_)|(exact fun (h:true=false)=>Bool.noConfusion h)|(refine fun (_:true=true)=>?_)|exact fun (j:Nat) (hj:j < _)=>Or.inl (aU _ _ _ _)|fail)
  refine fun (y:Bool) (hy:y=uH l 12)=>?_
  cases y
  ·repeat' (first|apply And.intro|exact trivial|exact rfl|(exact fun (h:false=true)=>Bool.noConfusion h)|(refine fun (_:false=false)=>?_)|(exact fun (h:true=false)=>Bool.noConfusion h)|(refine fun (_:true=true)=>?_)|exact fun (j:Nat) (hj:j < _)=>Or.inl (aU _ _ _ _)|fail)
  ·repeat' (first|apply And.intro|exact trivial|exact rfl|(exact fun (h:false=true)=>Bool.noConfusion h)|(refine fun (_:false=false)=>?_)|(exact fun (h:true=false)=>Bool.noConfusion h)|(refine fun (_:true=true)=>?_)|exact fun (j:Nat) (hj:j < _)=>Or.inl (aU _ _ _ _)|fail)
   refine Exists.intro ([k],1) (Exists.intro [] ?_)
   repeat' (first|exact hone|apply And.intro|exact trivial|exact rfl|(exact fun (h:false=true)=>Bool.noConfusion h)|(refine fun (_:false=false)=>?_)|(exact fun (h:true=false)=>Bool.noConfusion h)|(refine fun (_:true=true)=>?_)|exact fun (j:Nat) (hj:j < _)=>Or.inl (aU _ _ _ _)|(refine fun (j:Nat) (hj:j < 1)=>?_; obtain rfl:j=0:=(by omega); exact Or.inl (aU _ _ _ _))|fail)
   refine fun (y:Bool) (hy2:y=uH [k] 1)=>?_
   cases y
   ·repeat' (first|apply And.intro|exact trivial|exact rfl|(exact fun (h:false=true)=>Bool.noConfusion h)|(refine fun (_:false=false)=>?_)|(exact fun (h:true=false)=>Bool.noConfusion h)|(refine fun (_:true=true)=>?_)|exact fun (j:Nat) (hj:j < _)=>Or.inl (aU _ _ _ _)|fail)
   have hs12:szT T<=12:=by rw [hsz]; unfold uH at hy; have:=hy.symm; rw [Bool.and_eq_true,decide_eq_true_eq] at this; omega
   have hu:UOk ⟨T,N,c,r,K,[]⟩:=⟨htr,hs12,by show 0<=_; decide⟩
   repeat' (first|apply And.intro|exact trivial|exact rfl|(exact fun (h:false=true)=>Bool.noConfusion h)|(refine fun (_:false=false)=>?_)|(exact fun (h:true=false)=>Bool.noConfusion h)|(refine fun (_:true=true)=>?_)|exact fun (j:Nat) (hj:j < _)=>Or.inl (aU _ _ _ _)|fail)
   refine Exists.intro ⟨T,N,c,r,K,[]⟩ (Exists.intro [1,2] ?_)
   repeat' (first|exact hu|apply And.intro|exact trivial|exact rfl|(exact fun (h:false=true)=>Bool.noConfusion h)|(refine fun (_:false=false)=>?_)|(exact fun (h:true=false)=>Bool.noConfusion h)|(refine fun (_:true=true)=>?_)|exact fun (j:Nat) (hj:j < _)=>Or.inl (aU _ _ _ _)|exact fun (i:Nat)=>aC (by exact rfl) (N i)|exact fun (i:Nat)=>aD (by exact rfl) (by exact rfl) (N i)|fail)
   refine fun (N1:Nat->NO) (h1:Tr Dd T N1 c r K)=>?_
   have hdd:decide (lR Dd T=lR Dd T)=true:=decide_eq_true rfl
   have hp1:POk ⟨T,N1,c,r,K,k⟩:=⟨h1,hK0,by show K<=_; omega,hk⟩
   repeat' (first|apply And.intro|exact trivial|exact rfl|(exact fun (h:false=true)=>Bool.noConfusion h)|(refine fun (_:false=false)=>?_)|(exact fun (h:true=false)=>Bool.noConfusion h)|(refine fun (_:true=true)=>?_)|exact fun (i:Nat)=>aC (by exact rfl) (N1 i)|exact fun (i:Nat)=>aD (by exact rfl) (by exact rfl) (N1 i)|fail)
   refine Exists.intro ⟨T,N1,c,r,K,k⟩ (Exists.intro [1,2] ?_)
   repeat' (first|exact hp1|apply And.intro|exact trivial|exact rfl|(exact fun (h:false=true)=>Bool.noConfusion h)|(refine fun (_:false=false)=>?_)|(exact fun (h:true=false)=>Bool.noConfusion h)|(refine fun (_:true=true)=>?_)|exact fun (i:Nat)=>aC (by exact rfl) (N1 i)|exact fun (i:Nat)=>aD (by exact rfl) (by exact rfl) (N1 i)|fail)
   refine fun (y:(Nat->NO)×Nat×Int) (hy:Tr Dd (gS T k) y.1 y.2.1 r (K+1000)/\y.2.2=pcT T k)=>?_
   obtain ⟨N2,c2,f2⟩:=y
   obtain ⟨(h2:Tr Dd (gS T k) N2 c2 r (K+1000)),(hf2:f2=pcT T k)⟩:=hy
   rcases Md (k:=k) hs12 h1.val with ⟨hc,hm,he2⟩|⟨hc,hm,he2⟩|⟨hc,hm,he2⟩
   ·rw [hc] at hf2
    subst hf2
    rw [he2] at h2
    repeat' (first|apply And.intro|exact trivial|exact rfl|(exact fun (h:false=true)=>Bool.noConfusion h)|(refine fun (_:false=false)=>?_)|(exact fun (h:true=false)=>Bool.noConfusion h)|(refine fun (_:true=true)=>?_)|exact fun (i:Nat)=>aC (by exact rfl) (N2 i)|exact fun (i:Nat)=>aD (by exact rfl) (by exact rfl) (N2 i)|fail)
    have hp2:POk ⟨eM k.2 k.1 T,N2,c2,r,K+1000,k⟩:=⟨h2,by show 0<=K+1000; omega,by show K+1000<=_; omega,hk⟩
    have hm2:dJ k.1 k.2 (eM k.2 k.1 T):=(lY k.1 w).2 (.inl ⟨rfl,rfl⟩)
    refine Exists.intro ⟨eM k.2 k.1 T,N2,c2,r,K+1000,k⟩ (Exists.intro [1,2] ?_)
    repeat' (first|exact hp2|apply And.intro|exact trivial|exact rfl|(exact fun (h:false=true)=>Bool.noConfusion h)|(refine fun (_:false=false)=>?_)|(exact fun (h:true=false)=>Bool.noConfusion h)|(refine fun (_:true=true)=>?_)|exact fun (i:Nat)=>aC (by exact rfl) (N2 i)|exact fun (i:Nat)=>aD (by exact rfl) (by exact rfl) (N2 i)|fail)
    refine fun (y:(Nat->NO)×Int) (hy:Tr Dd (iQ (eM k.2 k.1 T) k) y.1 c2 r (K+1000+1000)/\y.2=dcT (eM k.2 k.1 T) k)=>?_
    obtain ⟨N3,f3⟩:=y
    obtain ⟨(h3:Tr Dd (iQ (eM k.2 k.1 T) k) N3 c2 r (K+1000+1000)),(hf3:f3=dcT (eM k.2 k.1 T) k)⟩:=hy
    rw [(yF hm2).2,Of w hm] at h3
    rw [(yF hm2).1] at hf3
    subst hf3
    repeat' (first|apply And.intro|exact trivial|exact rfl|(exact fun (h:false=true)=>Bool.noConfusion h)|(refine fun (_:false=false)=>?_)|(exact fun (h:true=false)=>Bool.noConfusion h)|(refine fun (_:true=true)=>?_)|exact fun (i:Nat)=>aC (by exact rfl) (N3 i)|exact fun (i:Nat)=>aD (by exact rfl) (by exact rfl) (N3 i)|fail)
    have hu2:UOk ⟨T,N3,c2,r,K+1000+1000,[]⟩:=⟨h3,hs12,by show 0<=_; decide⟩
    refine Exists.intro ⟨T,N3,c2,r,K+1000+1000,[]⟩ (Exists.intro [1,2] ?_)
    repeat' (first|exact hu2|apply And.intro|exact trivial|exact rfl|(exact fun (h:false=true)=>Bool.noConfusion h)|(refine fun (_:false=false)=>?_)|(exact fun (h:true=false)=>Bool.noConfusion h)|(refine fun (_:true=true)=>?_)|exact fun (i:Nat)=>aC (by exact rfl) (N3 i)|exact fun (i:Nat)=>aD (by exact rfl) (by exact rfl) (N3 i)|fail)
    refine fun (N4:Nat->NO) (h4:Tr Dd T N4 c2 r (K+1000+1000))=>?_
    repeat' (first|apply And.intro|exact trivial|exact rfl|(exact fun (h:false=true)=>Bool.noConfusion h)|(refine fun (_:false=false)=>?_)|(exact fun (h:true=false)=>Bool.noConfusion h)|(refine fun (_:true=true)=>?_)|exact fun (i:Nat)=>aC (by exact rfl) (N4 i)|exact fun (i:Nat)=>aD (by exact rfl) (by exact rfl) (N4 i)|fail)
    exact (pk rfl hdd:aW _ _ _ _ _=true)
   ·rw [hc] at hf2
    subst hf2
    rw [he2] at h2
    repeat' (first|apply And.intro|exact trivial|exact rfl|(exact fun (h:false=true)=>Bool.noConfusion h)|(refine fun (_:false=false)=>?_)|(exact fun (h:true=false)=>Bool.noConfusion h)|(refine fun (_:true=true)=>?_)|exact fun (i:Nat)=>aC (by exact rfl) (N2 i)|exact fun (i:Nat)=>aD (by exact rfl) (by exact rfl) (N2 i)|fail)
    have hp2:POk ⟨T,N2,c2,r,K+1000,k⟩:=⟨h2,by show 0<=K+1000; omega,by show K+1000<=_; omega,hk⟩
    refine Exists.intro ⟨T,N2,c2,r,K+1000,k⟩ (Exists.intro [1,2] ?_)
    repeat' (first|exact hp2|apply And.intro|exact trivial|exact rfl|(exact fun (h:false=true)=>Bool.noConfusion h)|(refine fun (_:false=false)=>?_)|(exact fun (h:true=false)=>Bool.noConfusion h)|(refine fun (_:true=true)=>?_)|exact fun (i:Nat)=>aC (by exact rfl) (N2 i)|exact fun (i:Nat)=>aD (by exact rfl) (by exact rfl) (N2 i)|fail)
    refine fun (y:(Nat->NO)×Int) (hy:Tr Dd (iQ T k) y.1 c2 r (K+1000+1000)/\y.2=dcT T k)=>?_
    obtain ⟨N3,f3⟩:=y
    obtain ⟨(h3:Tr Dd (iQ T k) N3 c2 r (K+1000+1000)),(hf3:f3=dcT T k)⟩:=hy
    rw [(yF hm).2] at h3
    rw [(yF hm).1] at hf3
    subst hf3
    repeat' (first|apply And.intro|exact trivial|exact rfl|(exact fun (h:false=true)=>Bool.noConfusion h)|(refine fun (_:false=false)=>?_)|(exact fun (h:true=false)=>Bool.noConfusion h)|(refine fun (_:true=true)=>?_)|exact fun (i:Nat)=>aC (by exact rfl) (N3 i)|exact fun (i:Nat)=>aD (by exact rfl) (by exact rfl) (N3 i)|fail)
    have hm2:¬ dJ k.1 k.2 (fV k.2 k.1 T):=fun h=>((oG k.1 w hm).1 h).2 ⟨rfl,rfl⟩
    have hc2:pcT (fV k.2 k.1 T) k=0:=G7.2 ⟨h1.val _ _ hm,hm2,by have:=h3.sz; have:=T16.sJ k.1 w hm; omega⟩
    have he3:gS (fV k.2 k.1 T) k=T:=by unfold gS; rw [if_pos hc2,Oy w hm]
    have hp3:POk ⟨fV k.2 k.1 T,N3,c2,r,K+1000+1000,k⟩:=⟨h3,by show 0<=K+1000+1000; omega,by show K+1000+1000<=_; omega,hk⟩
    refine Exists.intro ⟨fV k.2 k.1 T,N3,c2,r,K+1000+1000,k⟩ (Exists.intro [1,2] ?_)
    repeat' (first|exact hp3|apply And.intro|exact trivial|exact rfl|(exact fun (h:false=true)=>Bool.noConfusion h)|(refine fun (_:false=false)=>?_)|(exact fun (h:true=false)=>Bool.noConfusion h)|(refine fun (_:true=true)=>?_)|exact fun (i:Nat)=>aC (by exact rfl) (N3 i)|exact fun (i:Nat)=>aD (by exact rfl) (by exact rfl) (N3 i)|fail)
    refine fun (y:(Nat->NO)×Nat×Int) (hy:Tr Dd (gS (fV k.2 k.1 T) k) y.1 y.2.1 r (K+1000+1000+1000)/\y.2.2=pcT (fV k.2 k.1 T) k)=>?_
    obtain ⟨N4,c4,f4⟩:=y
    obtain ⟨(h4:Tr Dd (gS (fV k.2 k.1 T) k) N4 c4 r (K+1000+1000+1000)),(hf4:f4=pcT (fV k.2 k.1 T) k)⟩:=hy
    rw [hc2] at hf4
    subst hf4
    rw [he3] at h4
    repeat' (first|apply And.intro|exact trivial|exact rfl|(exact fun (h:false=true)=>Bool.noConfusion h)|(refine fun (_:false=false)=>?_)|(exact fun (h:true=false)=>Bool.noConfusion h)|(refine fun (_:true=true)=>?_)|exact fun (i:Nat)=>aC (by exact rfl) (N4 i)|exact fun (i:Nat)=>aD (by exact rfl) (by exact rfl) (N4 i)|fail)
    have hu2:UOk ⟨T,N4,c4,r,K+1000+1000+1000,[]⟩:=⟨h4,hs12,by show 0<=_; decide⟩
    refine Exists.intro ⟨T,N4,c4,r,K+1000+1000+1000,[]⟩ (Exists.intro [1,2] ?_)
    repeat' (first|exact hu2|apply And.intro|exact trivial|exact rfl|(exact fun (h:false=true)=>Bool.noConfusion h)|(refine fun (_:false=false)=>?_)|(exact fun (h:true=false)=>Bool.noConfusion h)|(refine fun (_:true=true)=>?_)|exact fun (i:Nat)=>aC (by exact rfl) (N4 i)|exact fun (i:Nat)=>aD (by exact rfl) (by exact rfl) (N4 i)|fail)
    refine fun (N5:Nat->NO) (h5:Tr Dd T N5 c4 r (K+1000+1000+1000))=>?_
    repeat' (first|apply And.intro|exact trivial|exact rfl|(exact fun (h:false=true)=>Bool.noConfusion h)|(refine fun (_:false=false)=>?_)|(exact fun (h:true=false)=>Bool.noConfusion h)|(refine fun (_:true=true)=>?_)|exact fun (i:Nat)=>aC (by exact rfl) (N5 i)|exact fun (i:Nat)=>aD (by exact rfl) (by exact rfl) (N5 i)|fail)
    exact (pk rfl hdd:aW _ _ _ _ _=true)
   ·rw [hc] at hf2
    subst hf2
    rw [he2] at h2
    repeat' (first|apply And.intro|exact trivial|exact rfl|(exact fun (h:false=true)=>Bool.noConfusion h)|(refine fun (_:false=false)=>?_)|(exact fun (h:true=false)=>Bool.noConfusion h)|(refine fun (_:true=true)=>?_)|exact fun (i:Nat)=>aC (by exact rfl) (N2 i)|exact fun (i:Nat)=>aD (by exact rfl) (by exact rfl) (N2 i)|fail)
    have hu2:UOk ⟨T,N2,c2,r,K+1000,[]⟩:=⟨h2,hs12,by show 0<=_; decide⟩
    refine Exists.intro ⟨T,N2,c2,r,K+1000,[]⟩ (Exists.intro [1,2] ?_)
    repeat' (first|exact hu2|apply And.intro|exact trivial|exact rfl|(exact fun (h:false=true)=>Bool.noConfusion h)|(refine fun (_:false=false)=>?_)|(exact fun (h:true=false)=>Bool.noConfusion h)|(refine fun (_:true=true)=>?_)|exact fun (i:Nat)=>aC (by exact rfl) (N2 i)|exact fun (i:Nat)=>aD (by exact rfl) (by exact rfl) (N2 i)|fail)
    refine fun (N3:Nat->NO) (h3:Tr Dd T N3 c2 r (K+1000))=>?_
    repeat' (first|apply And.intro|exact trivial|exact rfl|(exact fun (h:false=true)=>Bool.noConfusion h)|(refine fun (_:false=false)=>?_)|(exact fun (h:true=false)=>Bool.noConfusion h)|(refine fun (_:true=true)=>?_)|exact fun (i:Nat)=>aC (by exact rfl) (N3 i)|exact fun (i:Nat)=>aD (by exact rfl) (by exact rfl) (N3 i)|fail)
    ·refine fun (_:aW _ _ _ _ _=true)=>?_
     have hp2:POk ⟨T,N3,c2,r,K+1000,k⟩:=⟨h3,by show 0<=K+1000; omega,by show K+1000<=_; omega,hk⟩
     refine Exists.intro ⟨T,N3,c2,r,K+1000,k⟩ (Exists.intro [1,2] ?_)
     repeat' (first|exact hp2|apply And.intro|exact trivial|exact rfl|(exact fun (h:false=true)=>Bool.noConfusion h)|(refine fun (_:false=false)=>?_)|(exact fun (h:true=false)=>Bool.noConfusion h)|(refine fun (_:true=true)=>?_)|exact fun (i:Nat)=>aC (by exact rfl) (N3 i)|exact fun (i:Nat)=>aD (by exact rfl) (by exact rfl) (N3 i)|fail)
     refine fun (y:(Nat->NO)×Int) (hy:Tr Dd (iQ T k) y.1 c2 r (K+1000+1000)/\y.2=dcT T k)=>?_
     obtain ⟨N4,f4⟩:=y
     obtain ⟨(h4:Tr Dd (iQ T k) N4 c2 r (K+1000+1000)),(hf4:f4=dcT T k)⟩:=hy
     rw [(Uo hm).1] at hf4
     subst hf4
     repeat' (first|apply And.intro|exact trivial|exact rfl|(exact fun (h:false=true)=>Bool.noConfusion h)|(refine fun (_:false=false)=>?_)|(exact fun (h:true=false)=>Bool.noConfusion h)|(refine fun (_:true=true)=>?_)|exact fun (i:Nat)=>aC (by exact rfl) (N4 i)|exact fun (i:Nat)=>aD (by exact rfl) (by exact rfl) (N4 i)|fail)
     exact (pk (pk rfl hdd) rfl:aW _ _ _ _ _=true)
    ·exact fun (h:aW _ _ _ _ _=!true)=>Bool.noConfusion (show false=true from h.symm.trans (pk rfl hdd))
end T36
end
