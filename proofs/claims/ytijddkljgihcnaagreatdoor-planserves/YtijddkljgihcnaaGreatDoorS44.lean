/- A part of the proof. -/
import Derived.Test.YtijddkljgihcnaaGreatDoorX7
import Derived.Test.YtijddkljgihcnaaGreatDoorS37
import Derived.Test.YtijddkljgihcnaaGreatDoorS40
import Derived.Test.YtijddkljgihcnaaGreatDoorS33
open Go Go.Eng Go.Proofs G7 G4 L3 L10 G1 G3 EV0 B1 B2 S1 S2 S3 S4 S5 S6 S7 S8 S9 PL PL2 S33 S37 S39 S40
set_option maxRecDepth 100000
namespace S44
def Vt (l:Sq Of) (c:B) (i k:Nat):Bool:=decide ((l.f i).codes.f k=c)
theorem has_eq (l:Sq Of) (c:B) (i:Nat):orB (Vt l c i) (l.f i).codes.n=lJ l c i:=by
 unfold lJ
 cases h:orB (Vt l c i) (l.f i).codes.n with
 | true =>
  obtain ⟨k,h1,h2⟩:=aP.1 h
  have:∃ q,q < (l.f i).codes.n/\(l.f i).codes.f q=c:=⟨k,h1,of_decide_eq_true h2⟩
  rw [decide_eq_true this]
 | false =>
  have:¬ ∃ q,q < (l.f i).codes.n/\(l.f i).codes.f q=c:=fun ⟨k,h1,h2⟩=>absurd h2 (of_decide_eq_false (bF.1 h k h1))
  rw [decide_eq_false this]
theorem Vw {l:Sq Of} {c:B} (hv:vdV l=true) {y:Int×Int} (hy:y=E9 l c) {i:Nat} (hi:i < l.n) :
  (lJ l c i && (!decide (y.2=0) || decide ((i:Int) < y.1)) || ((decide ((i:Int)=y.1) && decide (y.2=0)) && !lJ l c i))=false:=by
 unfold E9 at hy
 rw [if_pos hv,if_pos hv] at hy
 by_cases e:svI l c=-1
 ·rw [if_pos e,if_pos e] at hy
  rw [V1 e i hi,hy]
  simp
 ·rw [if_neg e,if_neg e] at hy
  obtain ⟨p,p1,p2,p3,p4⟩:=Vs e
  rw [hy,p1]
  cases h:lJ l c i with
  | true =>
   have:¬ i < p:=fun hlt=>by rw [p4 i hlt] at h; cases h
   have h2:decide ((i:Int) < (p:Int))=false:=decide_eq_false (by omega)
   show (true && (!decide ((0:Int)=0) || decide ((i:Int) < (p:Int))) || ((decide ((i:Int)=(p:Int)) && decide ((0:Int)=0)) && !true))=false
   rw [h2]
   cases decide ((i:Int)=(p:Int)) <;> rfl
  | false =>
   have h2:decide ((i:Int)=(p:Int))=false:=decide_eq_false fun e=>by
    have:i=p:=by omega
    rw [this,p3] at h; cases h
   simp [h2]
theorem Vx {l:Sq Of} {c:B} (hv:vdV l=true) {y:Int×Int} (hy:y=E9 l c) (h0:¬ y.2=0):y.2=10/\y.1=0:=by
 unfold E9 at hy
 rw [if_pos hv,if_pos hv] at hy
 by_cases e:svI l c=-1
 ·rw [if_pos e,if_pos e] at hy; rw [hy]; exact ⟨rfl,rfl⟩
 ·rw [if_neg e] at hy; exact absurd (by rw [hy]; exact if_neg e) h0
theorem Vy {l:Sq Of} {c:B} (hv:vdV l=true) {y:Int×Int} (hy:y=E9 l c) (h0:y.2=0):∃ p:Nat,y.1=(p:Int)/\p < l.n/\svI l c=(p:Int):=by
 unfold E9 at hy
 rw [if_pos hv,if_pos hv] at hy
 by_cases e:svI l c=-1
 ·rw [if_pos e,if_pos e] at hy; rw [hy] at h0; exact absurd h0 (by decide)
 ·obtain ⟨p,p1,p2,_⟩:=Vs e
  exact ⟨p,by rw [hy]; exact (if_neg e).trans p1,p2,p1⟩
theorem Vv {l:Sq Of} {c:B} {p:Nat} (hv:vdV l=true) (hp:svI l c=(p:Int)) {z:Int×Int} (hz:z=E9 (noC l p) c):(decide (z.2=10) || (decide (z.2=0) && decide ((p:Int) < z.1)))=true:=by
 unfold E9 at hz
 rw [if_pos (V6 hv p),if_pos (V6 hv p)] at hz
 rcases Wa (l:=l) (c:=c) (n:=p) hp with e|e
 ·rw [if_pos e,if_pos e] at hz
  rw [hz]; rfl
 ·have e2:¬ svI (noC l p) c=-1:=by omega
  rw [if_neg e2,if_neg e2] at hz
  rw [hz,decide_eq_true e]; rfl
theorem V0 {l:Sq Of} {c:B} (hv:vdV l=false) {y:Int×Int} (hy:y=E9 l c):y.2=1:=by
 unfold E9 at hy
 rw [hv] at hy
 rw [hy]; rfl
theorem V7 {l:Sq Of} (h:okO l) (p:Nat):okO (noC l p):=by
 refine ⟨fun i hi=>by rw [Vp]; exact h.ln i hi,fun i hi=>?_⟩
 show okS (if i=p then (⟨(l.f p).links,⟨0,fun _=>[]⟩⟩:Of) else l.f i).codes okT
 split
 ·exact ⟨Nat.zero_le _,fun j hj=>absurd hj (Nat.not_lt_zero j)⟩
 ·exact h.cn i hi
theorem V9 {K:Keep} {hp:List (Nat×aG)} {m:Nat} (hK:loose K=true) {l:Sq Of} {p q:Nat} (hq:q=p) (i:Nat):qE K (sub K hp (m+10)) (bif Nat.beq (0+i) (0+q) then .cons (inE (l.f (0+q)).links) (.cons .nilsl .nil) else ofL (l.f (0+i))) (ofL ((noC l p).f i)):=by
 subst hq
 rw [Nat.zero_add,Nat.zero_add]
 by_cases e:i=q
 ·subst e
  rw [Nat.beq_refl,cond_true,show (noC l i).f i=⟨(l.f i).links,⟨0,fun _=>[]⟩⟩ from if_pos rfl]
  exact Or.inl ⟨⟨hK,rfl,rfl,fun (j:Nat) (_:j < (l.f i).links.n)=>Or.inl (sR K hp (m+5) _)⟩,rfl,trivial⟩
 ·have hb:Nat.beq i q=false:=by
   cases hb:Nat.beq i q with
   | false=>rfl
   | true=>exact absurd (Nat.eq_of_beq_eq_true hb) e
  rw [hb,cond_false,show (noC l q).f i=l.f i from if_neg e]
  exact Or.inl (Re K hp m _ hK)
def g7:List Nat:=[22,32,41,51,10,9,89,8,91,7,108,0,11,1,5,13,12,6,4]
def c7:aH :=
 .seq (.region g7 [(zo 4 (.move cF))]) (.seq (.region g7 [(zo 14 (.call (.c (.fn 9)) [])),(mv 5 14)]) (.seq (.seq (.region g7 [(mv 15 0),(zo 16 (.call (.c (.fn 10)) [.s 15])),(zo 17 (.not (.s 16))),(mv 18 17),(mg 19 18 false 1),(zg 20 18 false (.lenStr (.s 19))),(zg 21 18 false (.bin (.gtr) (.s 20) (cj 60))),(zo 22 (.pick (.s 18) cT (.s 21)))]) (.cond (.s 22) (.seq (.region g7 [(mv 23 5),(mv 4 23)]) .ret) .skip)) (.seq (.region g7 [(mv 25 0),(mv 26 1),(zo 27 (.call (.c (.fn 16)) [.s 25,.s 26])),(mv 24 27),(zo 28 (.extract 0 (.s 24))),(zo 29 (.extract 1 (.s 24))),(mv 6 28),(mv 7 29)]) (.seq (.seq (.region g7 [(mv 30 0),(zo 31 (.call (.c (.fn 20)) [.s 30])),(zo 32 (.not (.s 31)))]) (.cond (.s 32) (.seq (.region g7 [(mv 33 5),(mv 34 33),(mg 35 34 true 7),(zg 36 34 true (.bin (.eql) (.s 35) (cj 1))),(zo 37 (.pick (.s 34) (.s 36) cF)),(mv 4 37)]) .ret) .skip)) (.seq (.seq (.region g7 [(zo 8 (.move (cj 0)))]) (.block 0 (.loop 0 [38,39,40,41,44,45,46,47,48,49,50,51,54,55,56,57,58,59,60,61,62,63,64,65,66,9,52,53,10,67,68,69,70,71,72,73,74,75,76,77,78,79,80,81,82,83,84,85,86,87,88,89,4,42,43,8] (.seq (.seq (.region g7 [(mv 38 8),(mv 39 0),(zo 40 (.lenSl (.s 39))),(zo 41 (.bin (.lss) (.s 38) (.s 40)))]) (.cond (.s 41) .skip (.exit 0))) (.seq (.block 1 (.seq (.region g7 [(zo 9 (.move cF))]) (.seq (.seq (.region g7 [(zo 10 (.move (cj 0)))]) (.block 2 (.loop 1 [44,45,46,47,48,49,50,51,54,55,56,57,58,59,60,61,62,63,64,65,66,9,52,53,10] (.seq (.seq (.region g7 [(mv 44 10),(mv 45 0),(mv 46 8),(zo 47 (.idxSl 2 (.s 45) (.s 46))),(fa 48 1 47),(ld 49 48),(zo 50 (.lenSl (.s 49))),(zo 51 (.bin (.lss) (.s 44) (.s 50)))]) (.cond (.s 51) .skip (.exit 2))) (.seq (.block 3 (.region g7 [(mv 54 9),(mv 55 54),(mg 56 55 false 0),(mg 57 55 false 8),(zg 58 55 false (.idxSl 2 (.s 56) (.s 57))),(fg 59 55 false 1 58),(lg 60 55 false 59),(mg 61 55 false 10),(zg 62 55 false (.idxSl 1 (.s 60) (.s 61))),(lg 63 55 false 62),(mg 64 55 false 1),(zg 65 55 false (.bin (.eql) (.s 63) (.s 64))),(zo 66 (.pick (.s 55) cT (.s 65))),(mv 9 66)])) (.region g7 [(mv 52 10),(zo 53 (.bin (.add) (.s 52) (cj 1))),(mv 10 53)])))))) (.seq (.region g7 [(mv 67 9),(mv 68 67),(mg 69 68 true 7),(zg 70 68 true (.bin (.neq) (.s 69) (cj 0))),(mg 71 68 true 70),(mg 72 71 false 8),(mg 73 71 false 6),(zg 74 71 false (.bin (.lss) (.s 72) (.s 73))),(zg 75 68 true (.pick (.s 71) cT (.s 74))),(zo 76 (.pick (.s 68) (.s 75) cF)),(mv 77 76),(mg 78 77 false 8),(mg 79 77 false 6),(zg 80 77 false (.bin (.eql) (.s 78) (.s 79))),(mg 81 77 false 80),(mg 82 81 true 7),(zg 83 81 true (.bin (.eql) (.s 82) (cj 0))),(zg 84 77 false (.pick (.s 81) (.s 83) cF)),(mg 85 77 false 84),(mg 86 85 true 9),(zg 87 85 true (.not (.s 86))),(zg 88 77 false (.pick (.s 85) (.s 87) cF)),(zo 89 (.pick (.s 77) cT (.s 88)))]) (.cond (.s 89) (.seq (.region g7 [(zo 4 (.move cF))]) .ret) .skip))))) (.region g7 [(mv 42 8),(zo 43 (.bin (.add) (.s 42) (cj 1))),(mv 8 43)])))))) (.seq (.seq (.region g7 [(mv 90 7),(zo 91 (.bin (.neq) (.s 90) (cj 0)))]) (.cond (.s 91) (.seq (.region g7 [(mv 92 5),(mv 93 92),(mg 94 93 true 7),(zg 95 93 true (.bin (.eql) (.s 94) (cj 10))),(zo 96 (.pick (.s 93) (.s 95) cF)),(mv 97 96),(mg 98 97 true 6),(zg 99 97 true (.bin (.eql) (.s 98) (cj 0))),(zo 100 (.pick (.s 97) (.s 99) cF)),(mv 4 100)]) .ret) .skip)) (.seq (.seq (.region g7 [(mv 101 6),(zo 102 (.bin (.lss) (.s 101) (cj 0))),(mv 103 102),(mg 104 103 false 6),(mg 105 103 false 0),(zg 106 103 false (.lenSl (.s 105))),(zg 107 103 false (.bin (.geq) (.s 104) (.s 106))),(zo 108 (.pick (.s 103) cT (.s 107)))]) (.cond (.s 108) (.seq (.region g7 [(zo 4 (.move cF))]) .ret) .skip)) (.seq (.region g7 [(zo 109 (.buildSl 44 2 0 (.cons (.nilsl) (.cons (.nilsl) .nil)) [])),(mv 110 0),(zo 111 (.app 44 2 48 (.s 109) (.s 110))),(mv 11 111)]) (.seq (.region g7 [(mv 112 11),(mv 113 6),(zo 114 (.idxSl 2 (.s 112) (.s 113))),(fa 115 1 114),⟨none,none,.store 1 (.s 115) (.c (.nilsl)),[]⟩]) (.seq (.region g7 [(mv 117 11),(mv 118 1),(zo 119 (.call (.c (.fn 16)) [.s 117,.s 118])),(mv 116 119),(zo 120 (.extract 0 (.s 116))),(zo 121 (.extract 1 (.s 116))),(mv 12 120),(mv 13 121)]) (.seq (.region g7 [(mv 122 5),(mv 123 122),(mg 124 123 true 13),(zg 125 123 true (.bin (.eql) (.s 124) (cj 10))),(mg 126 123 true 125),(mg 127 126 false 13),(zg 128 126 false (.bin (.eql) (.s 127) (cj 0))),(mg 129 126 false 128),(mg 130 129 true 12),(mg 131 129 true 6),(zg 132 129 true (.bin (.gtr) (.s 130) (.s 131))),(zg 133 126 false (.pick (.s 129) (.s 132) cF)),(zg 134 123 true (.pick (.s 126) cT (.s 133))),(zo 135 (.pick (.s 123) (.s 134) cF)),(mv 4 135)]) .ret)))))))))))
theorem e7:aI Tryz.prog 7 g7 [] [27,119] []=some (c7,[.slot 4],136):=by kernel_rfl
attribute [local irreducible] jY vdV E9
def V8:Eng.Spec where
 X:=Sq Of×B
 args:=fun (l,c)=>.cons (ofE l) (.cons (.str c) .nil)
 pre:=fun x=>bgO x.1/\x.2.length<=4611686018427387904
 res:=fun _=>.bool true
 inst:=fun _=>none
set_option maxHeartbeats 8000000 in
theorem Vz:V8.Ok Tryz.prog 7:=by
 refine Eng.Spec.okR e7 .nil (fun _=>[(9,.p Na),(10,.p Sn),(20,.p vdS),(16,.m Ut)]) (fun _ _=>aA.p K5 (aA.p O8 (aA.p zR (aA.m Mq aA.nil)))) ?_
 rintro ⟨l,c⟩ ⟨(hb:bgO l),(hcl:c.length<=4611686018427387904)⟩
 refine ⟨trivial,?_⟩
 repeat' (first|exact hb|apply And.intro|exact trivial|exact rfl|exact S1.zz rfl|exact lz fun _=>rfl|refine gd ?_)
 ·refine fun _=>?_
  repeat' (first|apply And.intro|exact trivial|exact rfl|exact S1.zz rfl|exact lz fun _=>rfl|refine gd ?_)
 refine fun (hc0:aE (!jY l) cT (.s 21) true (decide ((60:Int) < (c.length:Int)))=false)=>?_
 rw [aF,Bool.or_eq_false_iff,Bool.not_eq_false',decide_eq_false_iff_not] at hc0
 obtain ⟨hf,h60⟩:=hc0
 have hpre:=C5 hf hb
 repeat' (first|apply And.intro|exact trivial|exact rfl|exact S1.zz rfl|exact lz fun _=>rfl|refine gd ?_)
 refine Exists.intro (l,c) (Exists.intro [] ?_)
 repeat' (first|exact hpre|apply And.intro|exact trivial|exact rfl|exact S1.zz rfl|exact lz fun _=>rfl|refine gd ?_)
 rintro (y:Int×Int) (hy:y=E9 l c)
 repeat' (first|exact hpre|apply And.intro|exact trivial|exact rfl|exact S1.zz rfl|exact lz fun _=>rfl|refine gd ?_)
 ·refine fun (hv0:(!vdV l)=true)=>?_
  have t1:decide (y.2=1)=true:=decide_eq_true (V0 (by simpa using hv0) hy)
  have tt:=fun (i:Nat)=>oZ (k:=i) rfl t1
  repeat' (first|exact tt _|apply And.intro|exact trivial|exact rfl|exact S1.zz rfl|exact lz fun _=>rfl|refine gd ?_)
 refine fun (hv0:(!vdV l)=false)=>?_
 have hv:vdV l=true:=by simpa using hv0
 have v:=pM.1 hv
 have h64:=v.n64
 have hok:=hpre.2 h64
 repeat' (first|apply And.intro|exact trivial|exact rfl|exact S1.zz rfl|exact lz fun _=>rfl|refine gd ?_)
 refine ⟨⟨Nat,fun i=>i<=l.n,fun i=>[(8,.int .i64 (i:Int))],fun _=>[],fun i=>l.n - i⟩,0,Nat.zero_le _,?_,?_⟩
 ·repeat' (first|apply And.intro|exact trivial|exact rfl|exact S1.zz rfl|exact lz fun _=>rfl|refine gd ?_)
 rintro (i:Nat) (hi:i<=l.n)
 repeat' (first|apply And.intro|exact trivial|exact rfl|exact S1.zz rfl|exact lz fun _=>rfl|refine gd ?_)
 ·refine fun (h:decide ((i:Int) < (l.n:Int))=true)=>?_
  have i1:(i:Int) < (l.n:Int):=of_decide_eq_true h
  have hil:i < l.n:=by omega
  have i0:(0:Int)<=(i:Int):=by omega
  have b1:-9223372036854775808<=(i:Int)+1:=by omega
  have b2:(i:Int)+1<=9223372036854775807:=by omega
  have em:l.n - (i+1) < l.n - i:=by omega
  have hcn:=(hok.cn i hil).1
  repeat' (first|apply And.intro|exact trivial|exact rfl|exact S1.zz rfl|exact lz fun _=>rfl|refine gd ?_)
  refine ⟨⟨Nat,fun k=>k<=(l.f i).codes.n,fun k=>[(10,.int .i64 (k:Int)),(9,.bool (orB (Vt l c i) k))],fun _=>[],fun k=>(l.f i).codes.n - k⟩,0,Nat.zero_le _,?_,?_⟩
  ·repeat' (first|apply And.intro|exact trivial|exact rfl|exact S1.zz rfl|exact lz fun _=>rfl|refine gd ?_)
  rintro (k:Nat) (hk:k<=(l.f i).codes.n)
  repeat' (first|exact And.intro i0 i1|apply And.intro|exact trivial|exact rfl|exact S1.zz rfl|exact lz fun _=>rfl|refine gd ?_)
  ·refine fun (h:decide ((k:Int) < ((l.f (i:Int).toNat).codes.n:Int))=true)=>?_
   have k1:(k:Int) < ((l.f (i:Int).toNat).codes.n:Int):=of_decide_eq_true h
   have hkl:k < (l.f i).codes.n:=by
    have:(k:Int) < ((l.f i).codes.n:Int):=k1
    omega
   have k0:(0:Int)<=(k:Int):=by omega
   have d1:-9223372036854775808<=(k:Int)+1:=by omega
   have d2:(k:Int)+1<=9223372036854775807:=by omega
   have em2:(l.f i).codes.n - (k+1) < (l.f i).codes.n - k:=by omega
   have e:∀ a:Nat,aE (orB (Vt l c i) k) cT (.s a) true (decide ((l.f (i:Int).toNat).codes.f (k:Int).toNat=c))=orB (Vt l c i) (k+1):=fun a=>by rw [aF]; rfl
   repeat' (first|exact fun (_:aY _ _ _ _)=>And.intro i0 i1|exact fun (_:aY _ _ _ _)=>And.intro k0 k1|with_reducible exact d1|with_reducible exact d2|apply And.intro|exact trivial|exact rfl|exact S1.zz rfl|exact lz fun _=>rfl|refine gd ?_)
   refine Exists.intro (k+1) (And.intro hkl ?_)
   repeat' (first|with_reducible exact em2|exact e _|apply And.intro|exact trivial|exact rfl|exact S1.zz rfl|exact lz fun _=>rfl|refine gd ?_)
  refine fun (h:decide ((k:Int) < ((l.f (i:Int).toNat).codes.n:Int))=false)=>?_
  have hkl:k=(l.f i).codes.n:=by
   have:¬ (k:Int) < ((l.f i).codes.n:Int):=of_decide_eq_false h
   omega
  have hh:orB (Vt l c i) k=lJ l c i:=by rw [hkl,has_eq]
  have e:∀ a b c' d f:Nat,aE (aE (orB (Vt l c i) k) (.s a) cF (aE (!decide (y.2=0)) cT (.s b) true (decide ((i:Int) < y.1))) false) cT (.s c') true (aE (aE (decide ((i:Int)=y.1)) (.s d) cF (decide (y.2=0)) false) (.s f) cF (!orB (Vt l c i) k) false)=false:=fun a b c' d f=>by
   rw [aF,aF,aD,aD,aD,hh]
   exact Vw hv hy hil
  repeat' (first|apply And.intro|exact trivial|exact rfl|exact S1.zz rfl|exact lz fun _=>rfl|refine gd ?_)
  ·exact fun hc0=>Bool.noConfusion (hc0.symm.trans (e _ _ _ _ _))
  refine fun _=>?_
  repeat' (first|with_reducible exact b1|with_reducible exact b2|apply And.intro|exact trivial|exact rfl|exact S1.zz rfl|exact lz fun _=>rfl|refine gd ?_)
  refine Exists.intro (i+1) (And.intro hil ?_)
  repeat' (first|with_reducible exact em|apply And.intro|exact trivial|exact rfl|exact S1.zz rfl|exact lz fun _=>rfl|refine gd ?_)
 refine fun _=>?_
 repeat' (first|apply And.intro|exact trivial|exact rfl|exact S1.zz rfl|exact lz fun _=>rfl|refine gd ?_)
 ·refine fun (hc:(!decide (y.2=0))=true)=>?_
  obtain ⟨s1,s2⟩:=Vx hv hy (by simpa using hc)
  have tt:=fun (i j:Nat)=>oZ (k:=j) (oZ (k:=i) rfl (decide_eq_true s1)) (decide_eq_true s2)
  repeat' (first|exact tt _ _|apply And.intro|exact trivial|exact rfl|exact S1.zz rfl|exact lz fun _=>rfl|refine gd ?_)
 refine fun (hc:(!decide (y.2=0))=false)=>?_
 obtain ⟨p,p1,p2,p3⟩:=Vy hv hy (by simpa using hc)
 have r1:decide (y.1 < 0)=false:=decide_eq_false (by omega)
 have r2:decide ((l.n:Int)<=y.1)=false:=decide_eq_false (by omega)
 have rr:=fun (i:Nat)=>Bz (k:=i) r1 r2
 have y0:0<=y.1:=by omega
 have y1:y.1 < (l.n:Int):=by omega
 repeat' (first|apply And.intro|exact trivial|exact rfl|exact S1.zz rfl|exact lz fun _=>rfl|refine gd ?_)
 ·exact fun hc0=>Bool.noConfusion (hc0.symm.trans (rr _))
 refine fun _=>?_
 have m1:l.n<=9223372036854775807:=by omega
 have m2:l.n * 48<=140737488355328:=by omega
 have m3:0+y.1.toNat < l.n:=by omega
 repeat' (first|exact And.intro y0 y1|with_reducible exact m1|with_reducible exact m2|with_reducible exact m3|exact fun (j:Nat) (_:j < _)=>(rfl:eF (ofL _)=true)|apply And.intro|exact trivial|exact rfl|exact S1.zz rfl|exact lz fun _=>rfl|refine gd ?_)
 refine Exists.intro (noC l p,c) (Exists.intro [] ?_)
 have hpn:y.1.toNat=p:=by omega
 have m4:0+l.n<=l.n:=Nat.le_of_eq (Nat.zero_add _)
 have n1:l.n<=1000000:=hpre.1
 have n2:l.n<=64->okO (noC l p):=fun h=>V7 (hpre.2 h) p
 repeat' (first|with_reducible exact m4|exact n1|exact n2|exact fun (i:Nat) (_:i < _)=>V9 rfl hpn i|apply And.intro|exact trivial|exact rfl|exact S1.zz rfl|exact lz fun _=>rfl|refine gd ?_)
 rintro (z:Int×Int) (hz:z=E9 (noC l p) c)
 have t:=Vv hv p3 hz
 have tt:∀ a b d:Nat,aE true (.s a) cF (aE (decide (z.2=10)) cT (.s b) true (aE (decide (z.2=0)) (.s d) cF (decide (y.1 < z.1)) false)) false=true:=fun a b d=>by
  rw [aD,aF,aD,p1,t]; rfl
 repeat' (first|exact tt _ _ _|apply And.intro|exact trivial|exact rfl|exact S1.zz rfl|exact lz fun _=>rfl|refine gd ?_)
end S44
