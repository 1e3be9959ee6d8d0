/- A part. -/
import Derived.Test.YtijddkljgihcnaaGreatDoorS34
import Derived.Test.YtijddkljgihcnaaGreatDoorS37
open Go Go.Eng Go.Proofs G7 G4 L3 L10 G1 G3 EV0 B1 B2 S1 S2 S3 S4 S5 S6 S7 S9 PL PL2 S34 S37 S39 S40 S46
set_option maxRecDepth 100000
namespace S43
noncomputable def vdM:Eng.bX:=vdS.mof Bool (fun l y=>y=vdV l) (fun _ y=>.bool y)
theorem Wk:vdM.Ok Tryz.prog 20:=Eng.Spec.Bm zR fun l _=>⟨vdV l,rfl,rfl⟩
theorem Wj {l:Sq Of} (h:okO l) (hn:∀ i,i < l.n->(l.f i).links.n<=10) {a b:Nat} (ha:a < l.n) (hb:b < l.n):okO (nwO l a b):=by
 have len:∀ i,i < l.n->∀ z,(sqL (wiV (l.f i).links z)).n<=1000000:=fun i hi z=>by
  have h1:=(Vy (l.f i).links z).2
  have h2:=hn i hi
  show (wiV (l.f i).links z).length<=1000000
  omega
 refine ⟨fun i hi=>?_,fun i hi=>?_⟩
 ·show (if i=b then (⟨sqL (wiV (l.f b).links (a:Int)),(l.f b).codes⟩:Of) else if i=a then ⟨sqL (wiV (l.f a).links (b:Int)),(l.f a).codes⟩ else l.f i).links.n<=1000000
  split
  ·exact len b hb _
  ·split
   ·exact len a ha _
   ·exact h.ln i hi
 ·show okS (if i=b then (⟨sqL (wiV (l.f b).links (a:Int)),(l.f b).codes⟩:Of) else if i=a then ⟨sqL (wiV (l.f a).links (b:Int)),(l.f a).codes⟩ else l.f i).codes okT
  split
  ·exact h.cn b hb
  ·split
   ·exact h.cn a ha
   ·exact h.cn i hi
theorem ext0 {T:Tb} {g:Option (Nat×Bool)} {fr:List (Nat×SV)} {r:List (Nat×aG)} {tyq sz n nx:Nat} {enc enc':Nat->SV} {K:SV->St->Prop} {o:SOp} (he:∀ j,enc j=enc' j) (h:Eng.evE T g ⟨fr,(0,.arr tyq sz n enc')::r,nx⟩ K o):Eng.evE T g ⟨fr,(0,.arr tyq sz n enc)::r,nx⟩ K o:=by
 rw [show enc=enc' from funext he]; exact h
def f1 (l:Sq Of) (a b:Nat) (j:Nat):Of:=if j=a then ⟨sqL (wiV (l.f a).links (b:Int)),(l.f a).codes⟩ else l.f j
theorem b64 {m:Int} (h:0<=m) (k:m<=255):-9223372036854775808<=m/\m<=9223372036854775807:=by omega
theorem el1 {l:Sq Of} {a b p:Nat} {z:Int} (hp:p=a) (hz:z=(b:Int)) (j:Nat) :
  (bif Nat.beq j (0+p) then .cons (.slice 1 (wiB (l.f p).links z (l.f p).links.n).length fun i=>inL ((wiB (l.f p).links z (l.f p).links.n).getD i 0)) (.cons (stE (l.f (0+p)).codes) .nil) else ofL (l.f j))=ofL (f1 l a b j):=by
 subst hp hz
 rw [Nat.zero_add,V7]
 unfold f1
 by_cases e:j=p
 ·subst e
  rw [Nat.beq_refl,cond_true,if_pos rfl]; rfl
 ·rw [S2.Af e,cond_false,if_neg e]
theorem el2 {K:Keep} {hp:List (Nat×aG)} {m:Nat} (hK:loose K=true) {l:Sq Of} {a b p:Nat} {z:Int} (hab:a≠b) (hp':p=b) (hz:z=(a:Int)) (j:Nat) :
  qE K (sub K hp (m+10)) (bif Nat.beq (0+j) (0+p) then .cons (.slice 1 (wiB (l.f p).links z (l.f p).links.n).length fun i=>inL ((wiB (l.f p).links z (l.f p).links.n).getD i 0)) (.cons (stE (f1 l a b (0+p)).codes) .nil) else ofL (f1 l a b (0+j))) (ofL ((nwO l a b).f j)):=by
 subst hp' hz
 rw [Nat.zero_add,Nat.zero_add,V7]
 by_cases e:j=p
 ·subst e
  rw [Nat.beq_refl,cond_true,show (nwO l a j).f j=⟨sqL (wiV (l.f j).links (a:Int)),(l.f j).codes⟩ from if_pos rfl,show f1 l a j j=l.f j from if_neg (fun e=>hab e.symm)]
  exact Or.inl (Re K hp m ⟨sqL (wiV (l.f j).links (a:Int)),(l.f j).codes⟩ hK)
 ·rw [S2.Af e,cond_false,show (nwO l a p).f j=f1 l a p j from if_neg e]
  exact Or.inl (Re K hp m _ hK)
def g6:List Nat:=[42,1,2,3,4,66,14,13,0,12,15,18,20,22,24,26,28,156,11,16,19,17,21,23,25,27,10]
abbrev sr (l:List bI) (c:aH):aH:=.seq (.region g6 l) c
abbrev zc (d x:Nat):=zo d (.cnv .i64 (.s x))
abbrev zn (d x:Nat):=zo d (.not (.s x))
def c6:aH :=
 sr [(zo 10 (.move cF))] (sr [(zo 29 (.call (.c (.fn 9)) [])),(mv 11 29)] (.seq (sr [(mv 30 0),(zo 31 (.call (.c (.fn 10)) [.s 30])),(zn 32 31),(mv 33 32),(mg 34 33 false 0),(zg 35 33 false (.call (.c (.fn 20)) [.s 34])),(zg 36 33 false (.not (.s 35))),(zo 37 (.pick (.s 33) cT (.s 36))),(mv 38 37),(mg 39 38 false 0),(zg 40 38 false (.lenSl (.s 39))),(zg 41 38 false (.bin (.eql) (.s 40) (cj 0))),(zo 42 (.pick (.s 38) cT (.s 41)))] (.cond (.s 42) (sr [(mv 43 11),(mv 10 43)] .ret) .skip)) (.seq (.drawn g6 (.pure 0 (mv 44 1) (.pure 1 (zc 45 44) (.pure 2 (mv 46 0) (.pure 3 (zl 47 46) (.pure 4 (zb 48 .rem 45 47) (.pure 5 (mv 49 2) (.pure 6 (zc 50 49) (.pure 7 (mv 51 0) (.pure 8 (zl 52 51) (.pure 9 (zb 53 .rem 50 52) (.pure 10 (mv 54 3) (.pure 11 (zc 55 54) (.pure 12 (mv 56 0) (.pure 13 (zl 57 56) (.pure 14 (zb 58 .rem 55 57) (.pure 15 (mv 59 4) (.pure 16 (zc 60 59) (.pure 17 (mv 61 0) (.pure 18 (zl 62 61) (.pure 19 (zb 63 .rem 60 62) (.pure 20 (mv 12 48) (.pure 21 (mv 13 53) (.pure 22 (mv 14 58) (.pure 23 (mv 15 63) .done))))))))))))))))))))))))) (.seq (sr [(mv 64 12),(mv 65 13),(zb 66 .eql 64 65)] (.cond (.s 66) (sr [(mv 67 11),(mv 10 67)] .ret) .skip)) (sr [(zo 68 (.buildSl 44 2 0 (.cons (.nilsl) (.cons (.nilsl) .nil)) [])),(mv 69 0),(zo 70 (.app 44 2 48 (.s 68) (.s 69))),(mv 16 70)] (.seq (.drawn g6 (.pure 0 (mv 71 16) (.pure 1 (mv 72 12) (.pure 2 (mv 73 16) (.pure 3 (mv 74 13) (.pure 4 (mv 75 0) (.pure 5 (mv 76 12) (.pure 6 (zo 77 (.idxSl 2 (.s 75) (.s 76))) (.pure 7 (fa 78 0 77) (.pure 8 (ld 79 78) (.pure 9 (mv 80 13) (.pure 10 (zo 81 (.call (.c (.fn 23)) [.s 79,.s 80])) (.pure 11 (mv 82 0) (.pure 12 (mv 83 13) (.pure 13 (zo 84 (.idxSl 2 (.s 82) (.s 83))) (.pure 14 (fa 85 0 84) (.pure 15 (ld 86 85) (.pure 16 (mv 87 12) (.pure 17 (zo 88 (.call (.c (.fn 23)) [.s 86,.s 87])) (.pure 18 (zo 89 (.idxSl 2 (.s 71) (.s 72))) (.pure 19 (fa 90 0 89) (.eff 20 ⟨none,none,.store 1 (.s 90) (.s 81),[]⟩ [] (.pure 21 (zo 91 (.idxSl 2 (.s 73) (.s 74))) (.pure 22 (fa 92 0 91) (.eff 23 ⟨none,none,.store 1 (.s 92) (.s 88),[]⟩ [] .done .none))) .none)))))))))))))))))))))) (sr [(mv 94 0),(mv 95 14),(mv 96 15),(zo 97 (.call (.c (.fn 12)) [.s 94,.s 95,.s 96])),(mv 93 97),(zo 98 (.extract 0 (.s 93))),(zo 99 (.extract 1 (.s 93))),(mv 17 98),(mv 18 99)] (sr [(mv 101 16),(mv 102 14),(mv 103 15),(zo 104 (.call (.c (.fn 12)) [.s 101,.s 102,.s 103])),(mv 100 104),(zo 105 (.extract 0 (.s 100))),(zo 106 (.extract 1 (.s 100))),(mv 19 105),(mv 20 106)] (sr [(mv 108 0),(mv 109 14),(mv 110 12),(zo 111 (.call (.c (.fn 12)) [.s 108,.s 109,.s 110])),(mv 107 111),(zo 112 (.extract 0 (.s 107))),(zo 113 (.extract 1 (.s 107))),(mv 21 112),(mv 22 113)] (sr [(mv 115 0),(mv 116 13),(mv 117 15),(zo 118 (.call (.c (.fn 12)) [.s 115,.s 116,.s 117])),(mv 114 118),(zo 119 (.extract 0 (.s 114))),(zo 120 (.extract 1 (.s 114))),(mv 23 119),(mv 24 120)] (sr [(mv 122 0),(mv 123 14),(mv 124 13),(zo 125 (.call (.c (.fn 12)) [.s 122,.s 123,.s 124])),(mv 121 125),(zo 126 (.extract 0 (.s 121))),(zo 127 (.extract 1 (.s 121))),(mv 25 126),(mv 26 127)] (sr [(mv 129 0),(mv 130 12),(mv 131 15),(zo 132 (.call (.c (.fn 12)) [.s 129,.s 130,.s 131])),(mv 128 132),(zo 133 (.extract 0 (.s 128))),(zo 134 (.extract 1 (.s 128))),(mv 27 133),(mv 28 134)] (.seq (sr [(mv 135 18),(zo 136 (.bin (.neq) (.s 135) (cj 0))),(mv 137 136),(mg 138 137 false 20),(zg 139 137 false (.bin (.neq) (.s 138) (cj 0))),(zo 140 (.pick (.s 137) cT (.s 139))),(mv 141 140),(mg 142 141 false 22),(zg 143 141 false (.bin (.neq) (.s 142) (cj 0))),(zo 144 (.pick (.s 141) cT (.s 143))),(mv 145 144),(mg 146 145 false 24),(zg 147 145 false (.bin (.neq) (.s 146) (cj 0))),(zo 148 (.pick (.s 145) cT (.s 147))),(mv 149 148),(mg 150 149 false 26),(zg 151 149 false (.bin (.neq) (.s 150) (cj 0))),(zo 152 (.pick (.s 149) cT (.s 151))),(mv 153 152),(mg 154 153 false 28),(zg 155 153 false (.bin (.neq) (.s 154) (cj 0))),(zo 156 (.pick (.s 153) cT (.s 155)))] (.cond (.s 156) (sr [(zo 10 (.move cF))] .ret) .skip)) (sr [(mv 157 11),(mv 158 157),(mg 159 158 true 16),(zg 160 158 true (.call (.c (.fn 20)) [.s 159])),(zo 161 (.pick (.s 158) (.s 160) cF)),(mv 162 161),(mg 163 162 true 19),(mg 164 162 true 17),(mg 165 162 true 21),(zg 166 162 true (.bin (.add) (.s 165) (cj 1))),(mg 167 162 true 23),(zg 168 162 true (.bin (.add) (.s 166) (.s 167))),(mg 169 162 true 25),(zg 170 162 true (.bin (.add) (.s 169) (cj 1))),(mg 171 162 true 27),(zg 172 162 true (.bin (.add) (.s 170) (.s 171))),(zg 173 162 true (.mm3 (.s 164) (.s 168) (.s 172))),(zg 174 162 true (.bin (.eql) (.s 163) (.s 173))),(zo 175 (.pick (.s 162) (.s 174) cF)),(mv 10 175)] .ret))))))))))))))
theorem e6:aI Tryz.prog 6 g6 [] [97,104,111,118,125,132,160] []=some (c6,[.slot 10],176):=by kernel_rfl
attribute [local irreducible] jY vdV eG dD Vx wiB
def Wo:Eng.Spec where
 X:=Sq Of×Int×Int×Int×Int
 args:=fun (l,a,b,c,d)=>.cons (ofE l) (.cons (.int .u8 a) (.cons (.int .u8 b) (.cons (.int .u8 c) (.cons (.int .u8 d) .nil))))
 pre:=fun x=>bgO x.1/\(0<=x.2.1/\x.2.1<=255)/\(0<=x.2.2.1/\x.2.2.1<=255)/\(0<=x.2.2.2.1/\x.2.2.2.1<=255)/\0<=x.2.2.2.2/\x.2.2.2.2<=255
 res:=fun _=>.bool true
 inst:=fun _=>none
set_option maxHeartbeats 16000000 in
theorem Wc:Wo.Ok Tryz.prog 6:=by
 refine Eng.Spec.okR e6 .nil (fun _=>[(9,.p Na),(10,.p Sn),(20,.m vdM),(12,.m Wn),(23,.p Wi)]) (fun _ _=>aA.p K5 (aA.p O8 (aA.m Wk (aA.m Wb (aA.p Wg aA.nil))))) ?_
 rintro ⟨l,m1,m2,m3,m4⟩ ⟨(hb:bgO l),⟨(a0:0<=m1),(a1:m1<=255)⟩,⟨(b0:0<=m2),(b1:m2<=255)⟩,⟨(c0:0<=m3),(c1:m3<=255)⟩,(d0:0<=m4),(d1:m4<=255)⟩
 refine ⟨trivial,?_⟩
 repeat' (first|exact hb|apply And.intro|exact trivial|exact rfl|exact lz fun _=>rfl|exact S1.zz rfl|refine gd ?_)
 rotate_left
 ·refine fun (hg:(!jY l)=!false)=>?_
  repeat' (first|exact fun (h:aY _ _ _ _)=>Bool.noConfusion (hg.symm.trans h)|exact hg|apply And.intro|exact trivial|exact rfl|exact lz fun _=>rfl|exact S1.zz rfl|refine gd ?_)
  ·refine fun _=>?_
   repeat' (first|apply And.intro|exact trivial|exact rfl|exact lz fun _=>rfl|exact S1.zz rfl|refine gd ?_)
  ·exact fun hc=>by
    have h1:=hc
    rw [aF] at h1
    exact Bool.noConfusion (show true=false from (Bool.or_eq_false_iff.1 h1).1)
 refine fun (hg:(!jY l)=false)=>?_
 have hf:jY l=true:=by simpa using hg
 have hpre:=C5 hf hb
 repeat' (first|refine Exists.intro l (Exists.intro [] ?_)|exact hpre|apply And.intro|exact trivial|exact rfl|exact lz fun _=>rfl|exact S1.zz rfl|refine gd ?_)
 rintro (y:Bool) (hy:y=vdV l)
 repeat' (first|apply And.intro|exact trivial|exact rfl|exact lz fun _=>rfl|exact S1.zz rfl|refine gd ?_)
 ·refine fun _=>?_
  repeat' (first|apply And.intro|exact trivial|exact rfl|exact lz fun _=>rfl|exact S1.zz rfl|refine gd ?_)
 refine fun (hc0:aE (aE (!jY l) cT (.s 34) true (!y)) cT (.s 39) true (decide ((l.n:Int)=0))=false)=>?_
 rw [aF,aF,Bool.or_eq_false_iff,Bool.or_eq_false_iff,decide_eq_false_iff_not] at hc0
 have hv:vdV l=true:=by
  have:=hc0.1.2
  rw [hy] at this
  simpa using this
 have hn0:=hc0.2
 have hn:l.n≠0:=by omega
 have v:=pM.1 hv
 have h64:=v.n64
 have hok:=hpre.2 h64
 have hfs:=D4 hf h64
 obtain ⟨a,ha,hal⟩:=(Pw (l:=l) a0 hn).nat
 obtain ⟨b,hbe,hbl⟩:=(Pw (l:=l) b0 hn).nat
 obtain ⟨c,hce,hcl⟩:=(Pw (l:=l) c0 hn).nat
 obtain ⟨d,hde,hdl⟩:=(Pw (l:=l) d0 hn).nat
 repeat' (first|exact b64 a0 a1|exact b64 b0 b1|exact b64 c0 c1|exact b64 d0 d1|exact hn0|apply And.intro|exact trivial|exact rfl|exact lz fun _=>rfl|exact S1.zz rfl|refine gd ?_)
 ·refine fun _=>?_
  repeat' (first|apply And.intro|exact trivial|exact rfl|exact lz fun _=>rfl|exact S1.zz rfl|refine gd ?_)
 refine fun (hab0:decide (Int.tmod m1 (l.n:Int)=Int.tmod m2 (l.n:Int))=false)=>?_
 have hab:a≠b:=fun e=>of_decide_eq_false hab0 (by rw [ha,hbe,e])
 have x1:0<=Int.tmod m1 (l.n:Int)/\Int.tmod m1 (l.n:Int) < (l.n:Int):=by omega
 have x3:0<=Int.tmod m2 (l.n:Int)/\Int.tmod m2 (l.n:Int) < (l.n:Int):=by omega
 have kp1:l.n<=9223372036854775807:=by omega
 have kp2:l.n * 48<=140737488355328:=by omega
 have kp3:0+(Int.tmod m1 (l.n:Int)).toNat < l.n:=by omega
 have kp4:0+(Int.tmod m2 (l.n:Int)).toNat < l.n:=by omega
 have kp5:(l.f (Int.tmod m1 (l.n:Int)).toNat).links.n<=1000000:=hok.ln _ (by omega)
 have kp6:(l.f (Int.tmod m2 (l.n:Int)).toNat).links.n<=1000000:=hok.ln _ (by omega)
 repeat' (first|exact x1|exact x3|with_reducible (first|exact kp1|exact kp2|exact kp3|exact kp4)|exact kp5|exact kp6|exact fun (j:Nat) (_:j < _)=>(rfl:eF (ofL _)=true)|apply And.intro|exact trivial|exact rfl|exact lz fun _=>rfl|exact S1.zz rfl|refine gd ?_)
 have pa:(Int.tmod m1 (l.n:Int)).toNat=a:=by omega
 have pb:(Int.tmod m2 (l.n:Int)).toNat=b:=by omega
 refine ext0 (enc':=fun j=>ofL (f1 l a b j)) (el1 pa hbe) ?_
 repeat' (first|exact x1|exact x3|with_reducible (first|exact kp1|exact kp2|exact kp3|exact kp4)|apply And.intro|exact trivial|exact rfl|exact lz fun _=>rfl|exact S1.zz rfl|refine gd ?_)
 have hpN1:(nwO l a b).n<=1000000/\((nwO l a b).n<=64->okO (nwO l a b)):=⟨hpre.1,fun _=>Wj hok (fun i hi=>(hfs.2 i hi).1) hal hbl⟩
 have hvN1:=Wp hv hal hbl hab
 have kp7:0+l.n<=l.n:=Nat.le_of_eq (Nat.zero_add _)
 refine Exists.intro (l,Int.tmod m3 (l.n:Int),Int.tmod m4 (l.n:Int)) (Exists.intro [] ?_)
 repeat' (first|exact hpre|apply And.intro|exact trivial|exact rfl|exact lz fun _=>rfl|exact S1.zz rfl|refine gd ?_)
 rintro (u1:Int×Int) (eu1:u1=Vx l (Int.tmod m3 (l.n:Int)) (Int.tmod m4 (l.n:Int)))
 rw [hce,hde,Vq hv hcl hdl] at eu1
 have su1:(!decide (u1.2=0))=false:=by rw [eu1]; rfl
 repeat' (first|refine Exists.intro ((nwO l a b),Int.tmod m3 (l.n:Int),Int.tmod m4 (l.n:Int)) (Exists.intro [] ?_)|exact hpN1|with_reducible exact kp7|exact fun (j:Nat) (_:j < _)=>el2 rfl hab pb ha j|apply And.intro|exact trivial|exact rfl|exact lz fun _=>rfl|exact S1.zz rfl|refine gd ?_)
 rintro (u2:Int×Int) (eu2:u2=Vx (nwO l a b) (Int.tmod m3 (l.n:Int)) (Int.tmod m4 (l.n:Int)))
 rw [hce,hde,Vq hvN1 hcl hdl] at eu2
 have su2:(!decide (u2.2=0))=false:=by rw [eu2]; rfl
 repeat' (first|refine Exists.intro (l,Int.tmod m3 (l.n:Int),Int.tmod m1 (l.n:Int)) (Exists.intro [] ?_)|exact hpre|apply And.intro|exact trivial|exact rfl|exact lz fun _=>rfl|exact S1.zz rfl|refine gd ?_)
 rintro (u3:Int×Int) (eu3:u3=Vx l (Int.tmod m3 (l.n:Int)) (Int.tmod m1 (l.n:Int)))
 rw [hce,ha,Vq hv hcl hal] at eu3
 have su3:(!decide (u3.2=0))=false:=by rw [eu3]; rfl
 repeat' (first|refine Exists.intro (l,Int.tmod m2 (l.n:Int),Int.tmod m4 (l.n:Int)) (Exists.intro [] ?_)|exact hpre|apply And.intro|exact trivial|exact rfl|exact lz fun _=>rfl|exact S1.zz rfl|refine gd ?_)
 rintro (u4:Int×Int) (eu4:u4=Vx l (Int.tmod m2 (l.n:Int)) (Int.tmod m4 (l.n:Int)))
 rw [hbe,hde,Vq hv hbl hdl] at eu4
 have su4:(!decide (u4.2=0))=false:=by rw [eu4]; rfl
 repeat' (first|refine Exists.intro (l,Int.tmod m3 (l.n:Int),Int.tmod m2 (l.n:Int)) (Exists.intro [] ?_)|exact hpre|apply And.intro|exact trivial|exact rfl|exact lz fun _=>rfl|exact S1.zz rfl|refine gd ?_)
 rintro (u5:Int×Int) (eu5:u5=Vx l (Int.tmod m3 (l.n:Int)) (Int.tmod m2 (l.n:Int)))
 rw [hce,hbe,Vq hv hcl hbl] at eu5
 have su5:(!decide (u5.2=0))=false:=by rw [eu5]; rfl
 repeat' (first|refine Exists.intro (l,Int.tmod m1 (l.n:Int),Int.tmod m4 (l.n:Int)) (Exists.intro [] ?_)|exact hpre|apply And.intro|exact trivial|exact rfl|exact lz fun _=>rfl|exact S1.zz rfl|refine gd ?_)
 rintro (u6:Int×Int) (eu6:u6=Vx l (Int.tmod m1 (l.n:Int)) (Int.tmod m4 (l.n:Int)))
 rw [ha,hde,Vq hv hal hdl] at eu6
 have su6:(!decide (u6.2=0))=false:=by rw [eu6]; rfl
 repeat' (first|apply And.intro|exact trivial|exact rfl|exact lz fun _=>rfl|exact S1.zz rfl|refine gd ?_)
 have tt:=fun (i j k m n:Nat)=>Bz (k:=n) (Bz (k:=m) (Bz (k:=k) (Bz (k:=j) (Bz (k:=i) su1 su2) su3) su4) su5) su6
 ·exact fun hc=>Bool.noConfusion (hc.symm.trans (tt _ _ _ _ _))
 refine fun _=>?_
 repeat' (first|apply And.intro|exact trivial|exact rfl|exact lz fun _=>rfl|exact S1.zz rfl|refine gd ?_)
 ·refine fun _=>?_
  repeat' (first|refine Exists.intro (nwO l a b) (Exists.intro [] ?_)|exact hpN1|with_reducible exact kp7|exact fun (j:Nat) (_:j < _)=>el2 rfl hab pb ha j|apply And.intro|exact trivial|exact rfl|exact lz fun _=>rfl|exact S1.zz rfl|refine gd ?_)
  rintro (w:Bool) (hw:w=vdV (nwO l a b))
  have hw1:w=true:=hw.trans hvN1
  have v1:u1.1=(dst (EO l) c d:Int):=by rw [eu1]
  have v2:u2.1=(dst (EO (nwO l a b)) c d:Int):=by rw [eu2]
  have v3:u3.1=(dst (EO l) c a:Int):=by rw [eu3]
  have v4:u4.1=(dst (EO l) b d:Int):=by rw [eu4]
  have v5:u5.1=(dst (EO l) c b:Int):=by rw [eu5]
  have v6:u6.1=(dst (EO l) a d:Int):=by rw [eu6]
  have m3':=jA (EO l) c a
  have m4':=jA (EO l) b d
  have m5':=jA (EO l) c b
  have m6':=jA (EO l) a d
  have j1:-9223372036854775808<=u3.1+1/\u3.1+1<=9223372036854775807:=by omega
  have j3:-9223372036854775808<=u3.1+1+u4.1/\u3.1+1+u4.1<=9223372036854775807:=by omega
  have j5:-9223372036854775808<=u5.1+1/\u5.1+1<=9223372036854775807:=by omega
  have j7:-9223372036854775808<=u5.1+1+u6.1/\u5.1+1+u6.1<=9223372036854775807:=by omega
  have hmin:u2.1=min (min u1.1 (u3.1+1+u4.1)) (u5.1+1+u6.1):=by
   rw [v2,Wh hal hbl hab,Vz,v1,v3,v4,v5,v6]
   omega
  have tf:=fun (i j:Nat)=>oZ (k:=j) (oZ (k:=i) rfl hw1) (decide_eq_true hmin)
  repeat' (first|exact j1|exact j3|exact j5|exact j7|exact tf _ _|apply And.intro|exact trivial|exact rfl|exact lz fun _=>rfl|exact S1.zz rfl|refine gd ?_)
 ·exact fun h=>Bool.noConfusion (show true=false from h)
end S43
