/- A part of the proof. -/
import Derived.Test.YtpiolkcdfgiefaaGreatDoorT50
import Derived.Test.YtpiolkcdfgiefaaGreatDoorD14
import Derived.Test.YtpiolkcdfgiefaaGreatDoorT37
import Derived.Test.YtpiolkcdfgiefaaGreatDoorD15
import Derived.Test.YtpiolkcdfgiefaaGreatDoorL3
import Derived.ProofKit
import Derived.OpenShut
import Derived.SizedLaws
import Derived.HandedShaped
import Derived.LaidMore
import Derived.Lay
import Derived.Stop.Joined
section
open Go Go.Eng Go.Proofs T1 T2 T3 T4 T5 T10 T11 T12 T13 T14 T16 T17 T18 T19 T24 T26 T31 T35
set_option maxRecDepth 100000
namespace T62
theorem aBp {T:TT} (w:wfT T) (a:Ac):wfT (opT T a)/\szT (opT T a)<=szT T+1:=by
 unfold opT;cases a.1 with
 | true =>
  show wfT (sE T a.2)/\szT (sE T a.2)<=_;unfold sE;split
  ·rename_i h;have hm:=pL.1 h;have:=T16.yM a.2.1 w hm;exact ⟨K6 a.2.1 w hm,by omega⟩
  ·exact ⟨w,iH _⟩
 | false =>
  show wfT (oB T a.2)/\szT (oB T a.2)<=_;unfold oB;split
  ·rename_i h;have hz:=zV.1 h;have:=oK (i:=a.2.2) a.2.1 w;exact ⟨yO a.2.1 w hz.2.1,by omega⟩
  ·exact ⟨w,iH _⟩
theorem Wv:∀ (l:List Ac) {T:TT},wfT T->szT (doT l T)<=szT T+l.length
 | [],T,_=>aL _
 | a::l,T,w=>by
  have h:=aBp w a;have h2:=Wv l h.1;show szT (doT l (opT T a))<=_;have h3:=h.2;rw [aY];omega
theorem Ha:∀ (l:List Ky) {T:TT},wfT T->(∀ k∈l,nN k.1 k.2=true)->l.Nodup->(∀ k∈l,¬ jS k.1 k.2 T)->szT T+l.length<=20000->∃ T',A7 l T=(0,T')
 | [],T,_,_,_,_,_=>⟨T,rfl⟩
 | k::l,T,w,hv,hn,hm,hs=>by
  rw [aY] at hs;have n2:=dX.1 hn;have e:pcT T k=0:=zV.2 ⟨hv k aQ,hm k aQ,by omega⟩;have hsz:=oK (i:=k.2) k.1 w;unfold A7;rw [if_pos e];refine Ha l (yO k.1 w (hm k aQ)) (fun x hx=>hv x (aK _ hx)) n2.2 (fun x hx h=>?_) (by omega);rcases (uA k.1 w).1 h with h|h
  ·exact n2.1 (by rw [<- (Prod.ext h.1 h.2:x=k)]; exact hx)
  ·exact hm x (aK _ hx) h
theorem tD {T:TT} (w:wfT T) (k:Ky):k∈eJ [] T ↔ jS k.1 k.2 T:=by
 obtain ⟨t,i⟩:=k;rw [mem_keys T [] w];simp
theorem Mf {T:TT} (w:wfT T):(eJ [] T).Nodup:=jV (fun {a b} (h:klt a b) (e:a=b)=>Us (a:=b) (by rw [e] at h; exact h)) (Gr T [] w)
theorem Rt {T:TT} (w:wfT T) (hv:∀ t i,jS t i T->nN t i=true) (hs:szT T<=20000):T19.iJ (eJ [] T)=(0,T):=by
 have h1:(eJ [] T).length<=20000:=by rw [wP]; exact hs
 have h2:¬ (eJ [] T).any pG=true:=by
  rw [List.any_eq_true];rintro ⟨k,hk,hb⟩;unfold pG at hb;rw [hv _ _ ((tD w k).1 hk)] at hb;cases hb
 obtain ⟨T',h⟩:=Ha (eJ [] T) sB (fun k hk=>hv _ _ ((tD w k).1 hk)) (Mf w) (fun _ _=>wS) (by show 0+_<=_; omega);have h3:T19.iJ (eJ [] T)=(0,T'):=by unfold T19.iJ; rw [if_neg (by omega),if_neg h2,h]
 obtain ⟨a,_,c⟩:=Mr h3;rw [h3,K7 T' T a w fun t i=>by rw [c]; exact tD w (t,i)]
structure BI (L:List Ky) (i:Nat) (B:TT):Prop where
 wf:wfT B
 sz:szT B+i=L.length
 mem:∀ t j,jS t j B ↔ (t,j)∈L.drop i
theorem aBz {L:List Ky}:BI L L.length emp:=⟨sB,by show 0+_=_; omega,fun t j=>by rw [gM]; exact ⟨fun h=>absurd h wS,fun h=>absurd h iO⟩⟩
theorem Tm {L:List Ky} {i:Nat} {B:TT} (hn:L.Nodup) (hv:∀ k∈L,nN k.1 k.2=true) (hs:L.length<=20000) (h:BI L (i+1) B) (hi:i < L.length):pcT B (L.getD i k0)=0/\BI L i (oB B (L.getD i k0)):=by
 have hd:L.drop i=L.getD i k0::L.drop (i+1):=by rw [dG hi]; simp [hi]
 have hm:¬ jS (L.getD i k0).1 (L.getD i k0).2 B:=by
  rw [h.mem];have:=hn.sublist (List.drop_sublist i L);rw [hd] at this;exact (dX.1 this).1
 have hk:L.getD i k0∈L:=by rw [aE,aH hi]; exact dN hi
 have hz:=h.sz;have e:pcT B (L.getD i k0)=0:=zV.2 ⟨hv _ hk,hm,by omega⟩;refine ⟨e,?_⟩;unfold oB;rw [if_pos e];have hsz:=oK (i:=(L.getD i k0).2) (L.getD i k0).1 h.wf;refine ⟨yO _ h.wf hm,by omega,fun t j=>?_⟩;rw [uA _ h.wf,h.mem,hd,aI,Prod.ext_iff]
theorem Xe {S B:TT} (w:wfT S) (h:BI (eJ [] S) 0 B):B=S:=K7 B S h.wf w fun t j=>by
 rw [h.mem,lL];exact tD w (t,j)
end T62
end
section
open Go Go.Eng Go.Proofs A0 T1 T2 T3 T4 T5 T6 T7 T8 T9 T10 T11 T12 T13 T14 T17 T18 T19 T20 T21 T22 T23 T24 T25 T26 T27 T28 T30 T31 T33 D3 D6 D9 D10 D11 D12 D13 T34 T35 T36 T37 T62 D14
set_option maxRecDepth 100000
namespace T61
def g9:List Nat:=[0,7,31,1,10,12,52,57,8,66,13,5,9,11,6,4]
def c9:bH :=
 .seq (.region g9 [(zo 4 (.move cF))]) (.seq (.region g9 [(zo 14 (.call (.c (.fn 10)) [])),(mv 5 14)]) (.seq (.region g9 [(mv 16 0),(zo 17 (.call (.c (.fn 11)) [.s 16])),(mv 15 17),(zo 18 (.extract 0 (.s 15))),(zo 19 (.extract 1 (.s 15))),(mv 6 18),(mv 7 19)]) (.seq (.seq (.region g9 [(mv 20 0),(zo 21 (.call (.c (.fn 17)) [.s 20,cj 12])),(zo 22 (.not (.s 21))),(mv 23 22),(mg 24 23 false 1),(zg 25 23 false (.call (.c (.fn 12)) [.s 24])),(zg 26 23 false (.not (.s 25))),(zo 27 (.pick (.s 23) cT (.s 26))),(mv 28 27),(mg 29 28 false 7),(zg 30 28 false (.bin (.neq) (.s 29) (cj 0))),(zo 31 (.pick (.s 28) cT (.s 30)))]) (.cond (.s 31) (.seq (.region g9 [(mv 32 5),(mv 4 32)]) .ret) .skip)) (.seq (.region g9 [(mv 33 6),(mv 34 1),(zo 35 (.call (.c (.fn 33)) [.s 33,.s 34]))]) (.seq (.region g9 [(mv 36 6),(zo 37 (.call (.c (.fn 16)) [.s 36])),(mv 8 37)]) (.seq (.region g9 [(mv 39 8),(zo 40 (.call (.c (.fn 11)) [.s 39])),(mv 38 40),(zo 41 (.extract 0 (.s 38))),(zo 42 (.extract 1 (.s 38))),(mv 9 41),(mv 10 42)]) (.seq (.region g9 [(zo 44 (.call (.c (.fn 11)) [.c (.nilsl)])),(mv 43 44),(zo 45 (.extract 0 (.s 43))),(zo 46 (.extract 1 (.s 43))),(mv 11 45),(mv 12 46)]) (.seq (.seq (.region g9 [(mv 47 10),(zo 48 (.bin (.neq) (.s 47) (cj 0))),(mv 49 48),(mg 50 49 false 12),(zg 51 49 false (.bin (.neq) (.s 50) (cj 0))),(zo 52 (.pick (.s 49) cT (.s 51)))]) (.cond (.s 52) (.seq (.region g9 [(zo 4 (.move cF))]) .ret) .skip)) (.seq (.seq (.region g9 [(mv 53 8),(zo 54 (.lenSl (.s 53))),(zo 55 (.bin (.sub) (.s 54) (cj 1))),(mv 13 55)]) (.block 0 (.loop 0 [56,57,60,61,62,63,64,65,66,4,58,59,13] (.seq (.seq (.region g9 [(mv 56 13),(zo 57 (.bin (.geq) (.s 56) (cj 0)))]) (.cond (.s 57) .skip (.exit 0))) (.seq (.block 1 (.seq (.region g9 [(mv 60 11),(mv 61 8),(mv 62 13),(zo 63 (.idxSl 2 (.s 61) (.s 62))),(zo 64 (.load 2 true (.s 63))),(zo 65 (.call (.c (.fn 15)) [.s 60,.s 64])),(zo 66 (.bin (.neq) (.s 65) (cj 0)))]) (.cond (.s 66) (.seq (.region g9 [(zo 4 (.move cF))]) .ret) .skip))) (.region g9 [(mv 58 13),(zo 59 (.bin (.sub) (.s 58) (cj 1))),(mv 13 59)])))))) (.seq (.region g9 [(mv 67 5),(mv 68 67),(mg 69 68 true 6),(zg 70 68 true (.call (.c (.fn 23)) [.s 69])),(mg 71 68 true 9),(zg 72 68 true (.call (.c (.fn 23)) [.s 71])),(zg 73 68 true (.bin (.eql) (.s 70) (.s 72))),(zo 74 (.pick (.s 68) (.s 73) cF)),(mv 75 74),(mg 76 75 true 6),(zg 77 75 true (.call (.c (.fn 23)) [.s 76])),(mg 78 75 true 11),(zg 79 75 true (.call (.c (.fn 23)) [.s 78])),(zg 80 75 true (.bin (.eql) (.s 77) (.s 79))),(zo 81 (.pick (.s 75) (.s 80) cF)),(mv 82 81),(mg 83 82 true 6),(zg 84 82 true (.call (.c (.fn 23)) [.s 83])),(zg 85 82 true (.call (.c (.fn 32)) [.s 84])),(zo 86 (.pick (.s 82) (.s 85) cF)),(mv 4 86)]) .ret))))))))))
def r9:List mD:=[.slot 4]
def k9:List (Nat×Nat×bH×Nat):=[]
theorem e9:cR Tryz.prog 9 g9 [] [] k9=some (c9,r9,87):=by kernel_rfl
theorem q9:lP Tryz.prog k9:=lP.nil
theorem o2 {a z:Bool} {n:Nat} (h:z=true):cS a cT (.s n) true z=true:=by rw [iZ,h,Bool.or_true]
theorem m1:{b:Bool}->b=true->(match b with|false=>false|true=>true)=true
 | true,_=>rfl
def Vb:Eng.Spec where
 X:=List Ky×List Ac
 args:=fun x=>.cons (ksE x.1) (.cons (acE x.2) .nil)
 pre:=fun x=>(x.1.length < 4611686018427387904/\∀ j,j < x.1.length->(x.1.getD j k0).1.length < 4611686018427387904)/\x.2.length < 4611686018427387904/\∀ j,j < x.2.length->(x.2.getD j a0).2.1.length < 4611686018427387904
 res:=fun _=>.bool true
 inst:=fun _=>none
attribute [local irreducible] D9.Dd D6.pO pH T19.iJ
set_option maxHeartbeats 16000000 in
theorem Ka:Vb.Ok Tryz.prog 9:=by
 refine Eng.Spec.okR e9 q9 (fun _=>[(10,.p Wc),(11,.m (Y6 Dd)),(17,.m X5),(12,.m Wh),(33,.m (doS Dd)),(23,.m aBi),(16,.m aAx),(15,.m ptS),(32,.p D15.isS)]) (fun _ _=>aZ.p Uj (aZ.m (Ru Dd) (aZ.m Lv (aZ.m Ri (aZ.m (aAd Dd) (aZ.m Zh (aZ.m Yy (aZ.m Wn (aZ.p D15.aAp aZ.nil))))))))) ?_;rintro ⟨l,a⟩ ⟨(hpn:l.length < 4611686018427387904/\∀ j,j < l.length->(l.getD j k0).1.length < 4611686018427387904),(hpa:a.length < 4611686018427387904/\∀ j,j < a.length->(a.getD j a0).2.1.length < 4611686018427387904)⟩;refine ⟨trivial,?_⟩;have hl:l.length < 4611686018427387904:=hpn.1;repeat' (first|apply aA|exact trivial)
 refine aB l (aB [] ?_);repeat' (first|exact hpn|apply aA|exact trivial|exact rfl|exact fun (j:Nat) (hj:j < _)=>Or.inl (gJ _ _ _ _)|fail)
 refine fun (y:NY) (hy:(y.e=(T19.iJ l).1/\y.o=decide (y.e=0))/\(y.o=true->Tr Dd (T19.iJ l).2 y.N y.c y.r y.K/\0<=y.K/\y.K<=20000000))=>?_;obtain ⟨e,o,N,c,r,K⟩:=y;obtain ⟨⟨(he:e=(T19.iJ l).1),(ho:o=decide (e=0))⟩,htr⟩:=hy;cases o with
 | false =>
  have hne:decide (e=0)=false:=ho.symm;refine aB (l,12) (aB [] ?_);repeat' (first|exact hl|apply aA|exact trivial|exact rfl|exact fun (j:Nat) (hj:j < _)=>Or.inl (gJ _ _ _ _)|fail)
  refine fun (y:Bool) (hf1:y=uH l 12)=>?_;cases y
  ·repeat' (first|apply aA|exact rfl|exact zh|refine zt ?_|fail)
  repeat' (first|apply aA|exact zf|refine zt ?_|fail)
  refine aB a (aB [] ?_);repeat' (first|exact hpa.1|apply aA|exact trivial|exact rfl|exact fun (j:Nat) _=>Or.inl (nX _ _ _ _)|fail)
  refine fun (y:Bool) (hf2:y=Ak a)=>?_;cases y
  ·repeat' (first|apply aA|exact rfl|exact zh|refine zt ?_|fail)
  repeat' (first|refine aA ?_ ?_)
  ·refine fun _=>?_;repeat' (first|exact rfl)
  ·exact fun (hx:cS _ _ _ _ _=false)=>Bool.noConfusion (hx.symm.trans (o2 (congrArg not hne)))
 | true =>
  obtain rfl:e=0:=of_decide_eq_true ho.symm;obtain ⟨(htr:Tr Dd (T19.iJ l).2 N c r K),(hK0:0<=K),(hK1:K<=20000000)⟩:=htr rfl;refine aB (l,12) (aB [] ?_);repeat' (first|exact hl|apply aA|exact trivial|exact rfl|exact fun (j:Nat) (hj:j < _)=>Or.inl (gJ _ _ _ _)|fail)
  refine fun (y:Bool) (hf1:y=uH l 12)=>?_;cases y
  ·repeat' (first|apply aA|exact rfl|exact zh|refine zt ?_|fail)
  repeat' (first|apply aA|exact zf|refine zt ?_|fail)
  refine aB a (aB [] ?_);repeat' (first|exact hpa.1|apply aA|exact trivial|exact rfl|exact fun (j:Nat) _=>Or.inl (nX _ _ _ _)|fail)
  refine fun (y:Bool) (hf2:y=Ak a)=>?_;cases y
  ·repeat' (first|apply aA|exact rfl|exact zh|refine zt ?_|fail)
  repeat' (first|apply aA|exact zf|refine zt ?_|fail)
  obtain ⟨T,hT⟩:∃ T,T19.iJ l=(0,T):=⟨(T19.iJ l).2,by rw [he]⟩;rw [hT] at htr;obtain ⟨w,hsz,_⟩:=Mr hT;have hl12:l.length<=12:=by
   have:=hf1.symm;unfold uH at this;rw [aO,decide_eq_true_eq] at this;omega
  have ha12:a.length<=12:=by
   have:=hf2.symm;unfold Ak at this;rw [aO,decide_eq_true_eq] at this;exact this.1
  have hd:Tr Dd T N c r K/\(0<=K/\K<=100000000000)/\a.length<=1000000/\∀ j,j < a.length->(a.getD j a0).2.1.length < 4611686018427387904:=⟨htr,⟨hK0,by omega⟩,by omega,hpa.2⟩;refine aB ⟨T,N,c,r,K,a⟩ (aB [0,1] ?_);repeat' (first|exact hd|apply aA|exact trivial|exact rfl|exact fun (j:Nat) _=>Or.inl (nX _ _ _ _)|exact zr N rfl rfl|fail)
  refine fun (y:DY) (hy:Tr Dd (doT a T) y.N y.c r y.K/\0<=y.K/\y.K<=K+1000 * (a.length:Int))=>?_;obtain ⟨N2,c2,K2⟩:=y;obtain ⟨(h2:Tr Dd (doT a T) N2 c2 r K2),(k20:0<=K2),(k21:K2<=K+1000 * (a.length:Int))⟩:=hy;have hs24:szT (doT a T)<=24:=by have:=Wv a w; omega
  obtain ⟨S,hS⟩:∃ S,doT a T=S:=⟨_,rfl⟩;rw [hS] at h2 hs24;clear hS hd;have hu:UOk ⟨S,N2,c2,r,K2,[]⟩:=⟨h2,hs24,by show 0<=_; decide⟩;refine aB ⟨S,N2,c2,r,K2,[]⟩ (aB [0,1] ?_);repeat' (first|exact hu|apply aA|exact trivial|exact rfl|exact zr N2 rfl rfl|fail)
  refine fun (L:List Ky) (hL:L=eJ [] S)=>?_;have hnw:T19.iJ L=(0,S):=by rw [hL]; exact Rt h2.wf h2.val h2.sz
  have hL24:L.length<=24:=by rw [hL,wP]; exact hs24
  have hLv:∀ k∈L,nN k.1 k.2=true:=fun k hk=>h2.val _ _ ((tD h2.wf k).1 (hL ▸ hk));have hLn:L.Nodup:=hL ▸ Mf h2.wf;have hpL:L.length < 4611686018427387904/\∀ j,j < L.length->(L.getD j k0).1.length < 4611686018427387904:=by
   refine ⟨by omega,fun j hj=>?_⟩;have hk:L.getD j k0∈L:=by rw [aE,aH hj]; exact dN hj
   have:=xG (hLv _ hk);omega
  refine aB L (aB [] ?_);repeat' (first|exact hpL|apply aA|exact trivial|exact rfl)
  ·exact fU (aW _)
  ·exact (fun (i:Nat) _=>by rw [aW i]; exact Or.inl (gJ _ _ _ _))
  refine fun (y:NY) (hy:(y.e=(T19.iJ L).1/\y.o=decide (y.e=0))/\(y.o=true->Tr Dd (T19.iJ L).2 y.N y.c y.r y.K/\0<=y.K/\y.K<=20000000))=>?_;rw [hnw] at hy;obtain ⟨e3,o3,N3,c3,r3,K3⟩:=y;obtain ⟨⟨(rfl:e3=0),(ho3:o3=decide ((0:Int)=0))⟩,htr3⟩:=hy;obtain rfl:o3=true:=ho3.trans (by decide);obtain ⟨(h3:Tr Dd S N3 c3 r3 K3),(k30:0<=K3),(k31:K3<=20000000)⟩:=htr3 rfl;clear ho3 htr3;have hpn0:([]:List Ky).length < 4611686018427387904/\∀ j,j < ([]:List Ky).length->(([]:List Ky).getD j k0).1.length < 4611686018427387904:=⟨by decide,fun j hj=>absurd hj (bP j)⟩;refine aB [] (aB [] ?_);repeat' (first|exact hpn0|apply aA|exact trivial|exact rfl)
  refine fun (y:NY) (hy:(y.e=(T19.iJ []).1/\y.o=decide (y.e=0))/\(y.o=true->Tr Dd (T19.iJ []).2 y.N y.c y.r y.K/\0<=y.K/\y.K<=20000000))=>?_;rw [aCa] at hy;obtain ⟨e4,o4,N4,c4,r4,K4⟩:=y;obtain ⟨⟨(rfl:e4=0),(ho4:o4=decide ((0:Int)=0))⟩,htr4⟩:=hy;obtain rfl:o4=true:=ho4.trans (by decide);obtain ⟨(h4:Tr Dd emp N4 c4 r4 K4),(k40:0<=K4),(k41:K4<=20000000)⟩:=htr4 rfl;clear ho4 htr4;repeat' (first|apply aA|exact zf|refine zt ?_|fail)
  ·omega
  ·omega
  refine ⟨⟨Nat×TT×(Nat->NO)×Nat×Int,fun s=>s.1<=L.length/\BI L s.1 s.2.1/\Tr Dd s.2.1 s.2.2.1 s.2.2.2.1 r4 s.2.2.2.2/\0<=s.2.2.2.2/\s.2.2.2.2+1000 * (s.1:Int)<=30000000,fun s=>[(13,.int .i64 ((s.1:Int) - 1))],fun s=>[(5,.cells 64 (.cons (.fown 6 r4 0) .nil)),(6,.fam fun q=>noO 6 (s.2.2.1 q)),(3,.cells 64 (.cons (.fown 4 r3 0) .nil)),(4,.fam fun q=>noO 4 (N3 q)),ksH 2 L,(0,.cells 64 (.cons (.fown 1 r 0) .nil)),(1,.fam fun q=>noO 1 (N2 q))],fun s=>s.1⟩,(L.length,emp,N4,c4,K4),?_,?_,?_⟩
  ·exact ⟨aL _,aBz,h4,k40,by show K4+1000 * (L.length:Int)<=_; omega⟩
  ·repeat' (first|apply aA|exact trivial|exact rfl|exact fun (j:Nat) _=>Or.inl (nX _ _ _ _)|exact fun (j:Nat) (hj:j < _)=>Or.inl (gJ _ _ _ _)|exact zr N2 rfl rfl|exact zr N3 rfl rfl|exact zr N4 rfl rfl|fail)
  rintro ⟨j,B,M,d,Q⟩ ⟨(kj:j<=L.length),(k1:BI L j B),(k2:Tr Dd B M d r4 Q),(k3:0<=Q),(k4:Q+1000 * (j:Int)<=30000000)⟩;repeat' (first|refine aA ?_ ?_)
  ·refine fun (hg:decide ((j:Int) - 1>=0)=true)=>?_;have hg1:1<=j:=by have:=of_decide_eq_true hg; omega
   obtain ⟨i,rfl⟩:∃ i,j=i+1:=⟨j - 1,by omega⟩;have hi:i < L.length:=kj;have e0:((i+1:Nat):Int) - 1=(i:Int):=by omega
   rw [e0];have g0:(0:Int)<=(i:Int):=by omega
   have g1:(i:Int) < (L.length:Int):=by omega
   repeat' (first|apply aA|(with_reducible first|exact g0|exact g1))
   ·show 0+i < L.length;omega
   have hLk:L.getD i k0∈L:=by rw [aE,aH hi]; exact dN hi
   obtain ⟨hpc,k5⟩:=Tm hLn hLv (bC hL24 (by decide)) k1 hi;have hp:POk ⟨B,M,d,r4,Q,L.getD i k0⟩:=⟨k2,k3,by show Q<=_; omega,hpL.2 i hi⟩;refine aB ⟨B,M,d,r4,Q,L.getD i k0⟩ (aB [5,6] ?_);repeat' (first|exact hp|apply aA|exact trivial|exact rfl|exact zm M rfl|fail)
   ·rw [aW]; rfl
   ·rw [aW]; rfl
   refine fun (y:(Nat->NO)×Nat×Int) (hy:Tr Dd (oB B (L.getD i k0)) y.1 y.2.1 r4 (Q+1000)/\y.2.2=pcT B (L.getD i k0))=>?_;obtain ⟨M2,d2,f⟩:=y;obtain ⟨(k6:Tr Dd (oB B (L.getD i k0)) M2 d2 r4 (Q+1000)),(hf:f=pcT B (L.getD i k0))⟩:=hy;rw [hpc] at hf;subst hf;have hi2:i<=L.length:=by omega
   have k7:0<=Q+1000:=by omega
   have k8:Q+1000+1000 * (i:Int)<=30000000:=by omega
   have b1:-9223372036854775808<=(i:Int) - 1:=by omega
   have b2:(i:Int) - 1<=9223372036854775807:=by omega
   have k9:i < i+1:=fK i;repeat' (first|apply aA|exact zf|refine zt ?_|(with_reducible first|exact b1|exact b2))
   refine aB (i,oB B (L.getD i k0),M2,d2,Q+1000) ?_;repeat' (first|(with_reducible first|exact hi2|exact k5|exact k6|exact k7|exact k8|exact k9)|apply aA|exact trivial|exact rfl|exact fun (j:Nat) _=>Or.inl (nX _ _ _ _)|exact fun (j:Nat) (hj:j < _)=>Or.inl (gJ _ _ _ _)|exact zm N2 rfl|exact zm N3 rfl|exact zr M2 rfl rfl|fail)
  ·refine fun (hg:decide ((j:Int) - 1>=0)=false)=>?_;have hj:j=0:=by have:=of_decide_eq_false hg; omega
   subst hj;have hB:B=S:=Xe h2.wf (hL ▸ k1);subst hB;repeat' (first|apply aA|exact zh|refine zt ?_|fail)
   refine aB ⟨B,N2,c2,r,K2,[]⟩ (aB [0,1] ?_);repeat' (first|exact hu|apply aA|exact trivial|exact rfl|exact zm N2 rfl|fail)
   refine fun (N5:Nat->NO) (h5:Tr Dd B N5 c2 r K2)=>?_;repeat' (first|apply aA|exact zh|refine zt ?_|fail)
   have hu3:UOk ⟨B,N3,c3,r3,K3,[]⟩:=⟨h3,hs24,by show 0<=_; decide⟩;refine aB ⟨B,N3,c3,r3,K3,[]⟩ (aB [3,4] ?_);repeat' (first|exact hu3|apply aA|exact trivial|exact rfl|exact zm N3 rfl|fail)
   refine fun (N6:Nat->NO) (h6:Tr Dd B N6 c3 r3 K3)=>?_;have hdd:decide (pH Dd B=pH Dd B)=true:=decide_eq_true rfl;repeat' (first|refine aA ?_ ?_)
   rotate_left 1
   ·exact fun (h:cS _ _ _ _ _=!true)=>Bool.noConfusion (show false=true from h.symm.trans (pk rfl hdd))
   refine fun (_:cS _ _ _ _ _=true)=>?_;have hu5:UOk ⟨B,N5,c2,r,K2,[]⟩:=⟨h5,hs24,by show 0<=_; decide⟩;refine aB ⟨B,N5,c2,r,K2,[]⟩ (aB [0,1] ?_);repeat' (first|exact hu5|apply aA|exact trivial|exact rfl|exact zr N5 rfl rfl|fail)
   refine fun (N7:Nat->NO) (h7:Tr Dd B N7 c2 r K2)=>?_;have huM:UOk ⟨B,M,d,r4,Q,[]⟩:=⟨k2,hs24,by show 0<=_; decide⟩;repeat' (first|refine aA ?_ ?_)
   rotate_left 1
   ·exact fun (h:cS _ _ _ _ _=!true)=>Bool.noConfusion (show false=true from h.symm.trans (pk rfl hdd))
   refine fun (_:cS _ _ _ _ _=true)=>?_;refine aB ⟨B,M,d,r4,Q,[]⟩ (aB [5,6] ?_);repeat' (first|exact huM|apply aA|exact trivial|exact rfl|exact zm M rfl|fail)
   refine fun (N8:Nat->NO) (h8:Tr Dd B N8 d r4 Q)=>?_;repeat' (first|refine aA ?_ ?_)
   rotate_left 1
   ·exact fun (h:cS _ _ _ _ _=!true)=>Bool.noConfusion (show false=true from h.symm.trans (pk (pk rfl hdd) hdd))
   refine fun (_:cS _ _ _ _ _=true)=>?_;have hu7:UOk ⟨B,N7,c2,r,K2,[]⟩:=⟨h7,hs24,by show 0<=_; decide⟩;refine aB ⟨B,N7,c2,r,K2,[]⟩ (aB [0,1] ?_);repeat' (first|exact hu7|apply aA|exact trivial|exact rfl|exact zr N7 rfl rfl|fail)
   refine fun (N9:Nat->NO) (h9:Tr Dd B N9 c2 r K2)=>?_;have his:=D15.X0 B;repeat' (first|refine aA ?_ ?_)
   ·refine fun (_:cS _ _ _ _ _=true)=>?_;repeat' (first|exact his|apply aA|exact trivial|exact rfl)
   ·exact m1 (pk (pk rfl hdd) hdd)
end T61
end
section
namespace Go.Eng
open Go Go.RowKit Go.ChangeShapes Go.WideShapes Go.ChangeAt
inductive Sp where
 | nil
 | cons (h t:Sp)
 | int (k:IntKind)
 | bool
 | str
 | slice (sz:Nat) (e:Sp)
def Sp.app:Sp->Sp->Sp
 | .cons h t,s=>.cons h (t.app s)
 | _,s=>s
def Sp.len:Sp->Nat
 | .cons _ t=>t.len+1
 | _=>0
def Sp.isL:Sp->Bool
 | .nil=>true
 | .cons _ t=>t.isL
 | _=>false
def Sp.rep:Nat->Sp->Sp
 | 0,_=>.nil
 | n+1,s=>s.app (Sp.rep n s)
def Sr (P:Program) (f:TypeId->Option Sp):List Field->Nat->Option Sp
 | [],_=>some .nil
 | fd::r,off=>match f fd.type with
  | some s=>bif Nat.beq fd.offset off && Nat.beq s.len (P.cellsOf fd.type) && s.isL then match Sr P f r (off+s.len) with
   | some s'=>some (s.app s')
   | none=>none
   else none
  | none=>none
def Bx (P:Program):Nat->TypeId->Option Sp
 | 0,_=>none
 | n+1,t=>match P.underlying t with
  | some (.int k)=>some (.cons (.int k) .nil)
  | some .bool=>some (.cons .bool .nil)
  | some .string=>some (.cons .str .nil)
  | some (.slice e)=>match Bx P n e with
   | some s=>bif Nat.beq s.len (P.cellsOf e) && Nat.blt 0 s.len && s.isL && Nat.blt 0 (P.bytesOf e) then some (.cons (.slice s.len s) .nil) else none
   | none=>none
  | some (.struct fs)=>match Sr P (Bx P n) fs.toList 0 with
   | some s=>bif Nat.beq s.len (P.cellsOf t) then some s else none
   | none=>none
  | some (.array m e)=>match Bx P n e with
   | some s=>bif Nat.beq s.len (P.cellsOf e) && s.isL && Nat.beq (m * s.len) (P.cellsOf t) then some (Sp.rep m s) else none
   | none=>none
  | _=>none
def Sh:Sp->SV->Prop
 | .nil,l=>l=.nil
 | .cons h t,l=>∃ a b,l=.cons a b/\Sh h a/\Sh t b
 | .int k,a=>∃ m,a=.int k m/\(Lit.int k m).wf=true
 | .bool,a=>∃ b,a=.bool b
 | .str,a=>∃ s,a=.str s/\s.length<=reachBytes
 | .slice sz e,a=>∃ n enc,a=.slice sz n enc/\n<=reachBytes/\∀ i,i < n->Sh e (enc i)
theorem Sp.Dh:∀ {s t:Sp},s.isL=true->(s.app t).len=s.len+t.len:=by
 intro s;induction s with
 | cons h t _ ih=>intro u hu; simp only [Sp.app,Sp.len,ih hu]; omega
 | nil=>intro u _; simp [Sp.app,Sp.len]
 | _=>intro u hu; simp [Sp.isL] at hu
theorem Sp.Lc:∀ {s t:Sp},s.isL=true->t.isL=true->(s.app t).isL=true:=by
 intro s;induction s with
 | cons h t _ ih=>intro u h1 h2; simp only [Sp.app,Sp.isL]; exact ih h1 h2
 | nil=>intro u _ h2; exact h2
 | _=>intro u hu; simp [Sp.isL] at hu
theorem Sh.isL:∀ {s:Sp} {l:SV},s.isL=true->Sh s l->Eng.isL l=true:=by
 intro s;induction s with
 | cons h t _ ih =>
  intro l hl hs;obtain ⟨a,b,rfl,_,h2⟩:=hs;simp only [Eng.isL];exact ih hl h2
 | nil=>intro l _ hs; simp only [Sh] at hs; subst hs; rfl
 | _=>intro l hu; simp [Sp.isL] at hu
theorem Sh.app:∀ {s t:Sp} {l m:SV},s.isL=true->Sh s l->Sh t m->Sh (s.app t) (vA l m):=by
 intro s;induction s with
 | cons h t _ ih =>
  intro u l m hl hs ht;obtain ⟨a,b,rfl,h1,h2⟩:=hs;simp only [Sp.app,vA];exact ⟨a,_,rfl,h1,ih hl h2 ht⟩
 | nil=>intro u l m _ hs ht; simp only [Sh] at hs; subst hs; exact ht
 | _=>intro u l m hu; simp [Sp.isL] at hu
def Light {H:Type} (P:Program) (t:TypeId) (d:DataW H):Prop:=∀ m∈d.weights P t,m<=reachBytes
theorem sJ {H:Type} {P:Program} {e:TypeId}:∀ {ds:List (DataW H)} {j:Nat} {d:DataW H},ds[j]?=some d->∀ n∈d.weights P e,n∈DataW.weightsAll P e ds:=by
 intro ds;induction ds with
 | nil=>intro j d h; simp at h
 | cons a r ih =>
  intro j d h n hn;simp only [DataW.weightsAll,bM];cases j with
  | zero=>simp at h; subst h; exact .inl hn
  | succ j=>exact .inr (ih (by simpa using h) n hn)
def Wall (w:World) (b:Nat):Prop:=b < w.heap.size/\Plain w b
theorem B3 (a:Addr) (k:Nat):(a.add k).block=a.block:=by
 unfold Addr.add;split <;> rfl
theorem mapM_some {α β:Type} {f:α->Option β}:∀ {l:List α} {r:List β},l.mapM f=some r->r.length=l.length/\∀ (j:Nat) (x:α),l[j]?=some x->f x=r[j]?:=by
 intro l;induction l with
 | nil=>intro r h; simp at h; subst h; exact ⟨rfl,fun j x e=>by simp at e⟩
 | cons a t ih =>
  intro r h;rw [List.mapM_cons] at h;simp only [aF,aD] at h;obtain ⟨b,h1,s,h2,h3⟩:=h;cases h3;obtain ⟨i1,i2⟩:=ih h2;refine ⟨by simp [i1],fun j x e=>?_⟩;cases j with
  | zero=>simp at e; subst e; simpa using h1
  | succ j=>simpa using i2 j x (by simpa using e)
section
variable {H:Type} {enc:TypeId×Value->H} {P:Program} {W:World} {base:Nat} {sp:Nat->Bool} {held:Bool}
theorem O2 {n:Nat} {f:TypeId->Option Sp} {cs:List Value} (hf:∀ (fd:Field) (s:Sp),f fd.type=some s->s.len=P.cellsOf fd.type->s.isL=true->(∃ x,DataW.trod enc P W base sp held n fd.type ((cs.drop fd.offset).take (P.cellsOf fd.type))=some x/\Light P fd.type x.1) ->
   ∃ l,Sh s l/\R (kP (Wall W) W) l ((cs.drop fd.offset).take (P.cellsOf fd.type))) :
  ∀ (fs:List Field) (off:Nat) (s:Sp),Sr P f fs off=some s->(∀ fd∈fs,∃ x,DataW.trod enc P W base sp held n fd.type ((cs.drop fd.offset).take (P.cellsOf fd.type))=some x/\Light P fd.type x.1)->off+s.len<=cs.length ->
   s.isL=true/\∃ l,Sh s l/\R (kP (Wall W) W) l ((cs.drop off).take s.len):=by
 intro fs;induction fs with
 | nil =>
  intro off s h _ _;simp only [Sr,aJ] at h;subst h;exact ⟨rfl,.nil,rfl,by simp [R,Sp.len]⟩
 | cons fd r ih =>
  intro off s h hx hl;simp only [Sr] at h;split at h
  ·rename_i s1 hs1;cases hb:(Nat.beq fd.offset off && Nat.beq s1.len (P.cellsOf fd.type) && s1.isL) with
   | false=>simp [hb] at h
   | true =>
    simp only [hb,cond_true] at h;simp only [aO] at hb;obtain ⟨⟨h1,h2⟩,h3⟩:=hb;have e1:=nbeq h1;have e2:=nbeq h2;split at h
    ·rename_i s2 hs2;cases h;rw [Sp.Dh h3] at hl;obtain ⟨l1,a1,a2⟩:=hf fd s1 hs1 e2 h3 (hx fd (aQ ..));obtain ⟨i0,l2,i1,i2⟩:=ih (off+s1.len) s2 hs2 (fun g hg=>hx g (aK _ hg)) (by omega);refine ⟨Sp.Lc h3 i0,vA l1 l2,a1.app h3 i1,?_⟩;rw [e1,<- e2] at a2;have:=Aa (a1.isL h3) a2 i2;rw [Sp.Dh h3];have e3:(cs.drop off).take (s1.len+s2.len)=(cs.drop off).take s1.len++(cs.drop (off+s1.len)).take s2.len:=by
      rw [List.take_add,lK]
     rw [e3];exact this
    ·cases h
  ·cases h
theorem Zk {s:Sp} (hs:s.isL=true) {cs:List Value}:∀ (m k:Nat),(∀ i,i < m->∃ l,Sh s l/\R (kP (Wall W) W) l ((cs.drop ((k+i) * s.len)).take s.len)) ->
  (Sp.rep m s).isL=true/\(Sp.rep m s).len=m * s.len/\∃ l,Sh (Sp.rep m s) l/\R (kP (Wall W) W) l ((cs.drop (k * s.len)).take (m * s.len)):=by
 intro m;induction m with
 | zero=>intro k _; exact ⟨rfl,by simp [Sp.rep,Sp.len],.nil,rfl,by simp [R]⟩
 | succ m ih =>
  intro k h;obtain ⟨i0,i1,l2,i2,i3⟩:=ih (k+1) fun i hi=>by
   have:=h (i+1) (by omega)
   rwa [show k+(i+1)=k+1+i by omega] at this
  obtain ⟨l1,a1,a2⟩:=h 0 (by omega);simp only [iK] at a2;refine ⟨Sp.Lc hs i0,by simp only [Sp.rep]; rw [Sp.Dh hs,i1,bW]; omega,vA l1 l2,a1.app hs i2,?_⟩;have:=Aa (a1.isL hs) a2 i3;have e3:(cs.drop (k * s.len)).take ((m+1) * s.len)=(cs.drop (k * s.len)).take s.len++(cs.drop ((k+1) * s.len)).take (m * s.len):=by
   rw [show (m+1) * s.len=s.len+m * s.len by rw [bW]; omega,List.take_add,lK];congr 3;rw [bW];omega
  rw [e3];exact this
theorem Vs:∀ (fuel n:Nat) (t:TypeId) (cs:List Value) (x:DataW H×List MemPlace) (s:Sp),Bx P fuel t=some s->DataW.trod enc P W base sp held n t cs=some x->Light P t x.1 ->
  s.isL=true/\s.len=cs.length/\∃ l,Sh s l/\R (kP (Wall W) W) l cs:=by
 intro fuel;induction fuel with
 | zero=>intro n t cs x s h; cases h
 | succ fuel ih =>
  intro n t cs x s h hd hw0;simp only [Bx] at h;split at h
  ·rename_i k ht;cases h;obtain ⟨m,rfl,_,hw⟩:=DataW.trod_int ht hd;exact ⟨rfl,rfl,.cons (.int k m) .nil,⟨_,_,rfl,⟨m,rfl,hw⟩,rfl⟩,by simp [R]⟩
  ·rename_i ht;cases h;obtain ⟨b,rfl,_⟩:=DataW.trod_bool ht hd;exact ⟨rfl,rfl,.cons (.bool b) .nil,⟨_,_,rfl,⟨b,rfl⟩,rfl⟩,by simp [R]⟩
  ·rename_i ht;cases h;obtain ⟨b,rfl,rfl,_⟩:=DataW.trod_string ht hd;have hl:b.data.toList.length<=reachBytes:=hw0 _ (by simp [DataW.weights]);refine ⟨rfl,rfl,.cons (.str b.data.toList) .nil,⟨_,_,rfl,⟨_,rfl,hl⟩,rfl⟩,?_⟩;simp only [R];exact ⟨_,_,rfl,by simp,rfl⟩
  ·rename_i e ht;split at h
   ·rename_i s1 hs1;cases hb:(Nat.beq s1.len (P.cellsOf e) && Nat.blt 0 s1.len && s1.isL && Nat.blt 0 (P.bytesOf e)) with
    | false=>simp [hb] at h
    | true =>
     simp only [hb,cond_true,aJ] at h;subst h;simp only [aO] at hb;obtain ⟨⟨⟨h1,h2⟩,h3⟩,h4⟩:=hb;have e1:=nbeq h1;have h2':0 < s1.len:=lR h2;have h4':0 < P.bytesOf e:=lR h4;rcases DataW.trod_slice ht hd with ⟨rfl,_⟩|⟨a,len,cap,elems,rest,m,_,rfl,rfl,hba,hlc,hcm,hel,hget,_⟩
     ·refine ⟨rfl,rfl,.cons (.slice s1.len 0 fun _=>.junk) .nil,⟨_,_,rfl,⟨0,_,rfl,bB _,fun i hi=>absurd hi (bP i)⟩,rfl⟩,?_⟩;simp only [R];exact ⟨_,_,rfl,⟨none,0,rfl,aL _,fun i hi=>absurd hi (bP i)⟩,rfl⟩
     ·have hsz:len<=reachBytes:=by
       have h5:=hw0 ((elems.length+rest.length) * P.bytesOf e) (by simp [DataW.weights,ht]);have h6:len * 1<=(elems.length+rest.length) * P.bytesOf e:=Nat.mul_le_mul (by omega) h4';omega
      -- where they lie
      have head:0 < len->∃ b off c T fr,a=⟨b,off,none⟩/\W.heap[b]?=some (.cells c T fr):=by
       intro hi;have hg:=hget 0 hi;rw [aH (by omega)] at hg;simp only [aD] at hg;obtain ⟨cs1,hc,hd1⟩:=hg;unfold World.cells? at hc;rw [if_pos (by rw [B3]; exact hba)] at hc;obtain ⟨c1,c2⟩:=mapM_some hc;rw [jY] at c1;have h0:=c2 0 0 (by rw [iS (by omega)]);rw [aH (by omega),Nat.zero_mul] at h0;have e0:(a.add 0).add 0=a:=by simp [Addr.add]
       rw [e0] at h0;obtain ⟨b,off,spot⟩:=a;unfold World.cell? at h0;simp only at h0;split at h0
       ·rename_i c T fr hh;cases spot with
        | none=>exact ⟨b,off,c,T,fr,rfl,hh⟩
        | some q=>simp at h0
       ·cases h0
      -- every element is like its type says
      have elem:∀ i,i < len->∃ l,Sh s1 l/\qL (kP (Wall W) W) (some a) s1.len i (R (kP (Wall W) W) l):=by
       intro i hi;have hg:=hget i hi;rw [aH (by omega)] at hg;simp only [aD] at hg;obtain ⟨cs1,hc,hd1⟩:=hg;obtain ⟨_,hlen,l,g1,g2⟩:=ih m e cs1 _ s1 hs1 hd1 (fun q hq=>hw0 q (by
        simp only [DataW.weights,ht,aI,bM];exact .inr (.inl (sJ (j:=i) (by rw [cE,aH (by omega)]; rfl) q hq))))
       unfold World.cells? at hc;rw [if_pos (by rw [B3]; exact hba)] at hc;obtain ⟨c1,c2⟩:=mapM_some hc;rw [jY] at c1;have cell:∀ j,j < cs1.length->W.cell? ((a.add (i * P.cellsOf e)).add j)=cs1[j]?:=by
        intro j hj;exact c2 j j (by rw [iS (by omega)])
       obtain ⟨b,off,c,T,fr,rfl,hh⟩:=head (by omega);refine ⟨l,g1,b,off,cs1,rfl,⟨(aS.1 hh).1,fun ds e2=>by rw [hh] at e2; cases e2; rfl⟩,g2,by omega,?_⟩;intro j v hv;have hj:j < cs1.length:=(aR.1 hv).1;rw [<- hv,<- cell j hj];rw [Addr.nH,Addr.nH,e1]
      refine ⟨rfl,rfl,.cons (.slice s1.len len fun i=>if hi:i < len then (elem i hi).choose else .junk) .nil,⟨_,_,rfl,⟨len,_,rfl,hsz,fun i hi=>?_⟩,rfl⟩,?_⟩
      ·simp only [hi,dif_pos];exact (elem i hi).choose_spec.1
      ·simp only [R];refine ⟨_,_,rfl,⟨some a,cap,rfl,hlc,fun i hi=>?_⟩,rfl⟩;simp only [hi,dif_pos];exact (elem i hi).choose_spec.2
   ·cases h
  ·rename_i fs ht;split at h
   ·rename_i s1 hs1;cases hb:Nat.beq s1.len (P.cellsOf t) with
    | false=>simp [hb] at h
    | true =>
     simp only [hb,cond_true,aJ] at h;subst h;obtain ⟨xs,m,_,rfl,hl,hxl,hx⟩:=DataW.trod_struct ht hd;have e1:=nbeq hb;obtain ⟨g0,l,g1,g2⟩:=O2 (enc:=enc) (P:=P) (W:=W) (base:=base) (sp:=sp) (held:=held) (n:=m) (f:=Bx P fuel) (cs:=cs) (fun fd s h1 h2 _ hy0=>by
       obtain ⟨y,hy,hyw⟩:=hy0;obtain ⟨_,_,l,k1,k2⟩:=ih m fd.type _ y s h1 hy hyw;exact ⟨l,k1,k2⟩) fs.toList 0 s1 hs1 (fun fd hfd=>by
       obtain ⟨i,hi⟩:=kM hfd;have hi':fs[i]?=some fd:=by simpa using hi
       have hlt:i < xs.length:=by rw [hxl]; exact (aS.1 hi').1
       refine ⟨xs[i],by rw [hx i fd hi',aH hlt],fun q hq=>hw0 q ?_⟩;simp only [DataW.weights,ht];exact DataW.weights_mem_each (j:=i) (t:=fd.type) (by rw [cE,hi]; rfl) (by rw [cE,aH hlt]; rfl) q hq) (by omega)
     refine ⟨g0,by omega,l,g1,?_⟩
     rwa [lL,gP (by omega)] at g2
   ·cases h
  ·rename_i m e ht;split at h
   ·rename_i s1 hs1;cases hb:(Nat.beq s1.len (P.cellsOf e) && s1.isL && Nat.beq (m * s1.len) (P.cellsOf t)) with
    | false=>simp [hb] at h
    | true =>
     simp only [hb,cond_true,aJ] at h;subst h;simp only [aO] at hb;obtain ⟨⟨h1,h2⟩,h3⟩:=hb;have e1:=nbeq h1;have e3:=nbeq h3;obtain ⟨xs,q,_,rfl,hl,hxl,hx⟩:=DataW.trod_array ht hd;obtain ⟨g0,g1,l,g2,g3⟩:=Zk (W:=W) h2 (cs:=cs) m 0 (fun i hi=>by
      have hg:=hx i hi;rw [aH (by omega)] at hg;obtain ⟨_,_,l,k1,k2⟩:=ih q e _ _ s1 hs1 hg (fun u hu=>hw0 u (by
       simp only [DataW.weights,ht];exact sJ (j:=i) (by rw [cE,aH (by omega)]; rfl) u hu))
      rw [aW,e1];exact ⟨l,k1,k2⟩)
     refine ⟨g0,by omega,l,g2,?_⟩;rw [Nat.zero_mul,lL,gP (by omega)] at g3;exact g3
   ·cases h
  ·cases h
theorem Ld {r:Reach} {b0:Nat} {fuel:Nat} {s:Sp} {t:TypeId} {v:Value} {d:DataW H} {ps:List MemPlace} (hs:Bx P (fuel+1) t=some (.cons s .nil)) (hne:(∀ fs,P.underlying t≠some (.struct fs))/\∀ m e,P.underlying t≠some (.array m e))
  (hval:Value.okWide P W r b0 t v) (hd:DataW.Trod enc P W base sp held t v d ps) (hw:Light P t d):∃ a,Sh s a/\R (kP (Wall W) W) a [v]:=by
 obtain ⟨n,hn⟩:=hd;obtain ⟨_,_,l,h1,h2⟩:=Vs (fuel+1) n t _ _ _ hs hn hw;have hc:v.cells.toList=[v]:=by
  simp only [Bx] at hs;split at hs
  ·rename_i ht; obtain ⟨m,rfl⟩:=okWide_int ht hval; rfl
  ·rename_i ht; obtain ⟨m,rfl⟩:=okWide_bool ht hval; rfl
  ·rename_i ht; obtain ⟨m,rfl⟩:=okWide_string ht hval; rfl
  ·rename_i ht; obtain ⟨_,_,_,rfl⟩:=okWide_slice ht hval; rfl
  ·rename_i fs ht; exact absurd ht (hne.1 fs)
  ·rename_i m e ht; exact absurd ht (hne.2 m e)
  ·cases hs
 rw [hc] at h2;obtain ⟨a,b,rfl,k1,k2⟩:=h1;simp only [R] at h2;obtain ⟨x,xs,e,k3,_⟩:=h2;cases e;exact ⟨a,k1,k3⟩
end
section
variable {H:Type} {enc:TypeId×Value->H} {P:Program} {W W':World}
theorem Bz (hl:laidOutB P=true) {sp':Nat->Bool}:∀ (ts:List TypeId) (vs:List Value) (ds:List (DataW H)) (ps:List MemPlace),(∀ t∈ts,P.readableRec t=true/\t < P.types.size)->DataW.TrodAll enc P W 0 (fun _=>true) true ts vs ds ps ->
  (∀ p∈ps,W.sameAt W' p)->(∀ p∈ps,sp' p.block=true)->DataW.TrodAll enc P W' 0 sp' true ts vs ds ps:=by
 intro ts;induction ts with
 | nil =>
  intro vs ds ps _ h _ _;cases vs <;> cases ds <;> first|exact h|exact h.elim
 | cons t ts ih =>
  intro vs ds ps ht h h1 h2;cases vs with
  | nil=>exact h.elim
  | cons v vs =>
   cases ds with
   | nil=>exact h.elim
   | cons d ds =>
    obtain ⟨p,q,a,b,rfl⟩:=h;obtain ⟨r1,r2⟩:=ht t (aQ ..);exact ⟨p,q,WideElems.Trod_stays hl r1 r2 a (fun x hx=>h1 x (eU _ hx)) (fun x hx=>h2 x (eU _ hx)),
     ih vs ds q (fun u hu=>ht u (aK _ hu)) b (fun x hx=>h1 x (List.mem_append_right _ hx)) (fun x hx=>h2 x (List.mem_append_right _ hx)),rfl⟩
theorem Ke {f:Func} {s:ChangeSpec} {apart fresh handsOn again:Bool} {args:Array Value} {v:Value} {ds gs:List (DataW H)} {before pa pv:List MemPlace}
  (hW:DataW.Whole enc P f.params.toList s.vars apart W args.toList ds gs before)
  (hres:∀ (b:Nat) (sp:Nat->Bool) (hd:Bool),DataW.TrodAll enc P W' b sp hd f.resultTypes.toList (v.resultList f.resultTypes.size) (s.fn H (ds++gs)).results [])
  (hargs:∀ sp:Nat->Bool,(∀ p∈before,sp p.block=true)->DataW.TrodAll enc P W' 0 sp true f.params.toList args.toList (s.fn H (ds++gs)).args pa)
  (hvars:∀ sp:Nat->Bool,(∀ p∈before,sp p.block=true)->DataW.TrodVars enc P W' sp s.vars (s.fn H (ds++gs)).vars pv)
  (hps:before=pa++pv) (hb:RowKit.Below W.heap.size W W')
  (hok:∀ (j:Nat) (t:TypeId) (r:Value),f.resultTypes[j]?=some t->(v.resultList f.resultTypes.size)[j]?=some r->Value.okWide P W' .any 0 t r) :
  s.post enc P f apart fresh handsOn again W args v W':=by
 have hlt:∀ p∈before,p.block < W.heap.size:=fun p hp=>hW.lt p hp;have hold:∀ p∈before,(fun b=>decide (b < W.heap.size)) p.block=true:=fun p hp=>by simpa using hlt p hp
 refine ⟨ds,gs,before,[],pa,pv,hW,hres _ _ _,hargs _ hold,hvars _ hold,World.keptBut_mono (fun p hp=>⟨hp,?_⟩) (hb.frame (·∈before)),fun _=>?_⟩
 ·rw [hps,bM] at hp;exact Or.inr hp
 ·obtain ⟨_,_,_,_,_,hz,hn⟩:=hW;refine ⟨hok,_,_,([]++pa)++pv,⟨[]++pa,pv,trodAll_append (hargs _ (fun _ _=>rfl)) (hres _ _ _),hvars _ (fun _ _=>rfl),rfl,?_,?_⟩,?_⟩
  ·intro b off hp;have hin:MemPlace.cell b off∈before:=by rw [hps]; simpa using hp
   rw [hb.frozen (hlt _ hin)];exact hz b off hin
  ·intro ha;have:=hn ha;rw [hps] at this;simpa using this
  ·intro p hp _;rw [hps];simpa using hp
theorem Ia:∀ {ts:List TypeId} {vs:List Value} {ds:List (DataW H)} {ps:List MemPlace} {b:Nat} {sp:Nat->Bool} {hd:Bool},DataW.TrodAll enc P W b sp hd ts vs ds ps->ds.length=ts.length:=by
 intro ts;induction ts with
 | nil =>
  intro vs ds ps b sp hd h;cases vs <;> cases ds <;> first|rfl|exact h.elim
 | cons t ts ih =>
  intro vs ds ps b sp hd h;cases vs with
  | nil=>exact h.elim
  | cons v vs =>
   cases ds with
   | nil=>exact h.elim
   | cons d ds =>
    obtain ⟨p,q,_,b,_⟩:=h;simp [ih b]
end
end Go.Eng
end
section
namespace Go.Eng
open Go Go.RowKit Go.ChangeShapes Go.WideShapes Go.ChangeAt
theorem wL {H:Type} {enc:TypeId×Value->H} {a:Assume} {C:Checked} {os:Os} {f:FuncId} {fn:Func} {s:ChangeSpec} {conds:List PathCond} {apart fresh handsOn again:Bool} {X:World->Array Value->Prop}
  (hX:∀ (w w':World) (args:Array Value),w.heap=w'.heap->X w args->X w' args)
  (own:ownKnob C.prog.godebug=none) (started:os.Started) (noInit:C.prog.inits.idxOf? f=none) (hfn:C.prog.funcs[f]?=some fn)
  (witness:∃ (w:World) (tape:Tape) (i:Input),w.os=os/\(w.forCall tape i).Shaped C.prog/\i.vars=[]/\Input.okWide C.prog (w.forCall tape i) .any w.heap.size f i /\
   ((s.pre enc C.prog fn conds apart (w.forCall tape i).memory i.args/\X (w.forCall tape i).memory i.args)/\sizedMet enc C.prog fn (OpenSpec.ofChange s) apart (w.forCall tape i).memory i.args)/\a.holds C.prog (lone (Frame.enter C.prog f i.args .normal) [] (w.forCall tape i)))
  (contract:∀ (W:World) (base:Nat) (args:Array Value) (ds gs:List (DataW H)) (before:List MemPlace),
   (∀ (j:Nat) t v,fn.params[j]?=some t->args[j]?=some v->Value.okWide C.prog W .any base t v) ->
   DataW.Whole enc C.prog fn.params.toList s.vars apart W args.toList ds gs before ->
   conds.all (PathCond.test C.prog ⟨fn.params.toList,ds,s.plain.varTypes C.prog,gs⟩)=true ->
   (DataW.weightsEach C.prog (fn.params.toList++s.plain.varTypes C.prog) (ds++gs)).all (·<=reachBytes)=true ->
   W.ShapedOpen C.prog->X W args ->
   a.holds C.prog (lone (Frame.enter C.prog f args .normal) [] W) ->
   Calls C.prog f args W fun e W'=>∃ v,e=.returned v/\s.post enc C.prog fn apart fresh handsOn again W args v W') :
  ReturnsInHanded a C os f .any (fun w args=>(s.pre enc C.prog fn conds apart w args/\X w args)/\sizedMet enc C.prog fn (OpenSpec.ofChange s) apart w args) (s.post enc C.prog fn apart fresh handsOn again):=by
 refine returnsInHanded_of_calls own started noInit witness ?_;intro w tape i _ hsh _ hok hpre hholds;obtain ⟨_,_,_,fn',hfn',_,_,_,_,hval⟩:=hok;have e:fn'=fn:=bK (hfn'.symm.trans hfn);subst e;obtain ⟨⟨⟨ds,gs,before,hw,hc⟩,hx⟩,hz⟩:=hpre;have hw':=DataW.Whole.of_heap (w':=w.forCall tape i) (by rfl) hw;refine (contract (w.forCall tape i) w.heap.size i.args ds gs before hval hw' hc (hz.weights hw) hsh (hX _ _ _ (by rfl) hx) hholds).mono fun e W' ⟨v,he,hp⟩=>?_;subst he;exact ChangeSpec.post_blind hp
theorem zJ {C:Checked} {os:Os} {H:Type} {enc:TypeId×Value->H} {laid:List (String×DataW Unit)} (started:os.Started) {f:FuncId} {fn:Func} {s:ChangeSpec} {conds:List PathCond} {apart fresh handsOn again:Bool} {tb:TypeId}
  (own:ownKnob C.prog.godebug=none) (noInit:C.prog.inits.idxOf? f=none) (hfn:C.prog.funcs[f]?=some fn)
  (witness:∃ (w:World) (tape:Tape) (i:Input),w.os=os/\(w.forCall tape i).Shaped C.prog/\i.vars=[]/\Input.okWide C.prog (w.forCall tape i) .any w.heap.size f i /\
   ((s.pre enc C.prog fn conds apart (w.forCall tape i).memory i.args/\laidMetH C.prog laid (w.forCall tape i).memory)/\sizedMet enc C.prog fn (OpenSpec.ofChange s) apart (w.forCall tape i).memory i.args)/\({}:Assume).holds C.prog (lone (Frame.enter C.prog f i.args .normal) [] (w.forCall tape i)))
  (hl:laidOutB C.prog=true) (hread:∀ t∈fn.params.toList,C.prog.readableRec t=true/\t < C.prog.types.size) (hvars:s.vars=[]) (hrt:fn.resultTypes=#[tb]) (htb:C.prog.underlying tb=some .bool)
  (hspec:∀ ds:List (DataW H),ds.length=fn.params.size->s.fn H ds={ results:=[.lit (.bool true)],args:=ds })
  (hcall:∀ (W:World) (base:Nat) (args:Array Value) (ds:List (DataW H)) (p:List MemPlace),(∀ (j:Nat) t v,fn.params[j]?=some t->args[j]?=some v->Value.okWide C.prog W .any base t v) ->
   DataW.TrodAll enc C.prog W 0 (fun _=>true) true fn.params.toList args.toList ds p->(∀ (j:Nat) t d,fn.params.toList[j]?=some t->ds[j]?=some d->Light C.prog t d)->W.ShapedOpen C.prog->laidMetH C.prog laid W->Calls C.prog f args W fun e W'=>e=.returned (.bool true)/\Below W.heap.size W W') :
  ReturnsInHanded {} C os f .any (fun w args=>(s.pre enc C.prog fn conds apart w args/\laidMetH C.prog laid w)/\sizedMet enc C.prog fn (OpenSpec.ofChange s) apart w args) (s.post enc C.prog fn apart fresh handsOn again):=by
 refine wL (X:=fun w _=>laidMetH C.prog laid w) (fun _ _ _ hh h=>laidMetH.of_heap hh h) own started noInit hfn witness ?_;intro W base args ds gs before hval hW _ hwt hsh hL _;have hW':=hW;obtain ⟨p,q,hA,hV,rfl,hfz,hnd⟩:=hW;rw [hvars] at hV;obtain ⟨rfl,rfl⟩:=trodVars_none hV;have hlight:∀ (j:Nat) t d,fn.params.toList[j]?=some t->ds[j]?=some d->Light C.prog t d:=by
  intro j t d ht hd m hm;have hl1:j < fn.params.toList.length:=(aR.1 ht).1;have hl2:j < ds.length:=(aR.1 hd).1;have:=fI.1 hwt m (DataW.weights_mem_each (j:=j) (by rw [aU hl1]; exact ht) (by rw [aU hl2]; exact hd) m hm);simpa using this
 refine (hcall W base args ds p hval hA hlight hsh hL).mono ?_;rintro e W' ⟨rfl,hb⟩;have hlen:=Ia hA;have hs:=hspec (ds++[]) (by rw [fX,hlen]; simp);refine ⟨_,rfl,Ke (pa:=p) (pv:=[]) hW' ?_ ?_ ?_ rfl hb.row ?_⟩
 ·intro b sp hd;rw [hs,hrt];exact trodAll_mk1 (shut_bool htb true)
 ·intro sp hsp;rw [hs,fX];refine Bz hl _ _ _ _ hread hA (fun x hx=>hb.row.same ?_) (fun x hx=>hsp x (by simpa using hx));have:=hW'.lt x (by simpa using hx);exact this
 ·intro sp _;rw [hs,hvars];exact rfl
 ·exact ok_one hrt rfl (okWide_bool_mk htb _)
end Go.Eng
end
