/- A part of the proof. -/
import Derived.Test.YtpiolkcdfgiefaaGreatDoorT17
import Derived.Test.YtpiolkcdfgiefaaGreatDoorT3
import Derived.Shelf.Strings.BuilderK
import Derived.WalkKit
import Derived.BigCall
import Derived.Test.YtpiolkcdfgiefaaGreatDoorProg
section
open Go Go.Eng Go.Proofs T1 T2 T3 T4 T5 T6 T7 T8 T9 T10 T11 T12 T13 T14 T15 T16 T17
set_option maxRecDepth 100000
namespace T18
theorem Ro {l:List B} {i j:B}:j∈pZ l l.length (eO l i) i ↔ j=i\/j∈l:=by
 rw [Ek,bM,aI];have:j∈l ↔ j∈l.take (eO l i)\/j∈l.drop (eO l i):=by
  rw [<- bM,dQ]
 rw [this];constructor
 ·rintro (h|h|h)
  ·exact .inr (.inl h)
  ·exact .inl h
  ·exact .inr (.inr h)
 ·rintro (h|h|h)
  ·exact .inr (.inl h)
  ·exact .inl h
  ·exact .inr (.inr h)
theorem O9 {l:List B} (h:Srt l):l.Nodup:=by
 refine jV ?_ h;intro a b hab e;subst e;rw [vB] at hab;cases hab
theorem Rp {l:List B} (h:Srt l) {i j:B} (hi:i∈l):j∈Bf l i ↔ j∈l/\j≠i:=by
 obtain ⟨h1,h2⟩:=(zW h i).1 hi;have e:l=l.take (eO l i)++i::l.drop (eO l i+1):=by
  have:i=l[eO l i]:=by
   have h3:=h2;rw [aE,aH h1] at h3;exact h3.symm
  conv=>lhs; rw [<- dQ (eO l i) l,dG h1,<- this]
 have hn:=O9 h;rw [e,lZ] at hn;obtain ⟨_,n2,n3⟩:=hn;have n4:=(dX.1 n2).1;unfold Bf;rw [bM];have hm:j∈l ↔ j∈l.take (eO l i)\/j=i\/j∈l.drop (eO l i+1):=by
  conv=>lhs; rw [e]
  rw [bM,aI]
 rw [hm];constructor
 ·rintro (h|h)
  ·exact ⟨.inl h,n3 _ h _ aQ⟩
  ·exact ⟨.inr (.inr h),fun e=>n4 (e ▸ h)⟩
 ·rintro ⟨h|h|h,hne⟩
  ·exact .inl h
  ·exact absurd h hne
  ·exact .inr h
theorem kV {ids:List B} {k:TK} {i:B}:jS [] i (.node ids k) ↔ i∈ids :=
 ⟨fun ⟨s,e,h⟩=>by cases e; exact h,fun h=>⟨_,rfl,h⟩⟩
theorem eR {ids:List B} {k:TK} {b:UInt8} {t i:B}:jS (b::t) i (.node ids k) ↔ ∃ s,eW k b=some s/\jS t i s :=
 ⟨mem_cons,fun ⟨s,hg,s',e,h⟩=>⟨s',by simp only [gG,hg,eQ]; exact e,h⟩⟩
theorem wS {t i:B}:¬ jS t i emp:=by
 rintro ⟨s,e,h⟩;cases t with
 | nil=>cases e; cases h
 | cons b t=>cases e
theorem uA {i:B}:∀ (t:B) {T:TT},wfT T->∀ {t' i':B},jS t' i' (nG i t T) ↔ (t'=t/\i'=i)\/jS t' i' T
 | [],.node ids k,w,[],i'=>by
  simp only [nG];rw [kV,kV,Ro];simp
 | [],.node ids k,w,b'::t',i'=>by
  simp only [nG];rw [eR,eR];simp
 | b::t,.node ids k,w,[],i'=>by
  simp only [nG];rw [kV,kV];simp
 | b::t,.node ids k,w,b'::t',i'=>by
  simp only [wfT] at w;simp only [nG];rw [eR,eR];simp only [Ee w.2.1];have hw:wfT ((eW k b).getD emp):=by
   cases hg:eW k b with
   | none=>exact sB
   | some s=>exact (nW hg w.2.2).1
  by_cases e:b'=b
  ·subst e;simp only [if_true,aJ,exists_eq_left'];rw [uA t hw];cases hg:eW k b' with
   | none =>
    simp only [Option.getD_none,fY,true_and,reduceCtorEq,false_and,exists_false,or_false];exact ⟨fun h=>h.resolve_right wS,.inl⟩
   | some s=>simp
  ·rw [if_neg e];simp [e]
theorem Mn {i:B}:∀ (t:B) {T:TT},wfT T->jS t i T->∀ {t' i':B},jS t' i' (qV i t T) ↔ jS t' i' T/\¬ (t'=t/\i'=i)
 | [],.node ids k,w,hm,[],i'=>by
  simp only [wfT] at w;simp only [qV];rw [kV,kV,Rp w.1 (kV.1 hm)];simp
 | [],.node ids k,w,hm,b'::t',i'=>by
  simp only [qV];rw [eR,eR];simp
 | b::t,.node ids k,w,hm,t',i'=>by
  simp only [wfT] at w;obtain ⟨s,hg,hms⟩:=mem_cons hm;have hs:=nW hg w.2.2;have ih:=@Mn i t s hs.1 hms;simp only [qV,hg];split
  ·rename_i h1;cases t' with
   | nil=>rw [kV,kV]; simp
   | cons b' t' =>
    rw [eR,eR];simp only [Ly w.2.1];by_cases e:b'=b
    ·subst e;simp only [if_true,reduceCtorEq,false_and,exists_false,false_iff,hg,aJ,exists_eq_left',fY,true_and];rintro ⟨h',hne⟩;have h2:=ih.2 ⟨h',hne⟩;have h3:=yM t hs.1 hms;obtain ⟨s',e',h4⟩:=h2;have h5:=Bj _ e';have:=List.length_pos_of_mem h4;omega
    ·rw [if_neg e]; simp [e]
  ·cases t' with
   | nil=>rw [kV,kV]; simp
   | cons b' t' =>
    rw [eR,eR];simp only [Ee w.2.1];by_cases e:b'=b
    ·subst e;simp only [if_true,aJ,exists_eq_left',hg,fY,true_and];exact ih
    ·rw [if_neg e]; simp [e]
structure Tr (D:Dg) (T:TT) (N:Nat->NO) (c r:Nat) (K:Int):Prop where
 rep:∃ F,iM D N T r F/\∀ z,F z->z < c
 ok:T8.Ok ⟨N,c,r⟩ K
 wf:wfT T
 val:∀ t i,jS t i T->nN t i=true
 sz:szT T<=20000
theorem xG {t i:B} (h:nN t i=true):t.length<=120:=by
 unfold nN at h;simp only [aO,decide_eq_true_eq] at h;exact h.2.1
theorem Tr.ids {D:Dg} {T:TT} {N:Nat->NO} {c r:Nat} {K:Int} (h:Tr D T N c r K) (t:B):∀ v,atN N r t=some v->(oV N v).length<=1000000:=by
 intro v hv;obtain ⟨F,hF,_⟩:=h.rep;obtain ⟨h1,h2⟩:=Dj t hF h.wf;cases hs:gG t T with
 | none=>rw [h2 hs] at hv; cases hv
 | some s =>
  obtain ⟨v',G,e,hr⟩:=h1 s hs;rw [e] at hv;cases hv;rw [(zQ hr).1];have:=Bj t hs;have:=h.sz;omega
theorem Tr.has {D:Dg} {T:TT} {N:Nat->NO} {c r:Nat} {K:Int} (h:Tr D T N c r K) {p:Bool} {t i:B}:HX.has ⟨p,N,c,r,t,i⟩=true ↔ jS t i T:=by
 obtain ⟨F,hF,_⟩:=h.rep;exact Ui hF h.wf
theorem Tr.F8 {D:Dg} {T:TT} {N:Nat->NO} {c r:Nat} {K:Int} (h:Tr D T N c r K) (hK:K<=1000000000000) {t i:B} (ht:t.length < 4611686018427387904):Lo.pre ⟨false,N,c,r,t,i⟩:=by
 refine ⟨rfl,h.ok.cl,h.ok.nd,ht,h.ids t,fun hh=>?_⟩;have hm:=h.has.1 hh;obtain ⟨F,hF,_⟩:=h.rep;obtain ⟨F',p⟩:=wE (D:=D) (c:=c) t hF h.wf hm;have hl:=xG (h.val _ _ hm);obtain ⟨s,hs,hi⟩:=hm;have e:oV (HX.mk false N c r t i).fin.N (HX.mk false N c r t i).fin.x=zI s:=by
  show oV (chN false ⟨N,c,r⟩ t).N (chN false ⟨N,c,r⟩ t).x=_;rw [p.ids,hs]; rfl
 refine ⟨⟨h.ok.cl,h.ok.nd,?_⟩,by show t.length<=1000; omega,?_,?_,fun _=>?_⟩
 ·intro j a n m sz mk hj;have:=h.ok.bd _ _ _ _ _ _ hj;omega
 ·rw [e];obtain ⟨ids,k⟩:=s;have:=Kv t h.wf hs;simp only [wfT] at this;exact this.1
 ·rw [e];have:=Bj t hs;have:=h.sz;omega
 ·rw [e]; exact hi
theorem Tr.drop {D:Dg} {T:TT} {N:Nat->NO} {c r:Nat} {K:Int} (h:Tr D T N c r K) (hK:0<=K) {t i:B} (hm:jS t i T):Tr D (qV i t T) (T12.nO ⟨false,N,c,r,t,i⟩) c r (K+1000):=by
 have e:T12.nO ⟨false,N,c,r,t,i⟩=jL false (chN false ⟨N,c,r⟩ t).N (chN false ⟨N,c,r⟩ t).x 0 i:=by
  unfold T12.nO;rw [h.has.2 hm];rfl
 obtain ⟨F,hF,hFc⟩:=h.rep;obtain ⟨F',p⟩:=wE (D:=D) (c:=c) t hF h.wf hm;have hl:=xG (h.val _ _ hm);have hz:=yM t h.wf hm;have hch:=P7 (p:=false) t h.ok hK;have hi:i∈oV (chN false ⟨N,c,r⟩ t).N (chN false ⟨N,c,r⟩ t).x:=by
  rw [p.ids];obtain ⟨s,hs,hi⟩:=hm;rw [hs]; exact hi
 have h2:=Qg hch hi r (Ez (p:=false) t h.ok hK h.ok.nd);rw [p.c] at h2;rw [e];refine ⟨⟨F',p.rep,fun z hz=>hFc z (p.new z hz)⟩,⟨h2.cl,h2.nd,?_⟩,K6 t h.wf hm,fun t' i' h'=>h.val t' i' ((Mn t h.wf hm).1 h').1,by have:=h.sz; omega⟩;intro j a n m sz mk hj;have:=h2.bd _ _ _ _ _ _ hj;omega
theorem Tr.E5 {D:Dg} {T:TT} {N:Nat->NO} {c r:Nat} {K:Int} (h:Tr D T N c r K) (hK:K<=1000000000000) {t i:B} (ht:t.length < 4611686018427387904):R5.pre ⟨true,N,c,r,t,i⟩:=by
 refine ⟨rfl,h.ok.cl,h.ok.nd,ht,h.ids t,fun hh=>?_⟩;obtain ⟨F,hF,hFc⟩:=h.rep;obtain ⟨e,_⟩:=zX (D:=D) (i:=i) t hF hFc h.ok.cl.free h.wf;have hl:t.length<=120:=by
  unfold HX.puts at hh;exact xG (aO _ _ ▸ hh:nN t i=true/\_).1
 have e':oV (HX.mk true N c r t i).fin.N (HX.mk true N c r t i).fin.x=zI ((gG t T).getD emp):=e;have hs:Srt (zI ((gG t T).getD emp))/\(zI ((gG t T).getD emp)).length < 1000000:=by
  cases hs:gG t T with
  | none=>exact ⟨.nil,by decide⟩
  | some s =>
   obtain ⟨ids,k⟩:=s;have h1:=Kv t h.wf hs;simp only [wfT] at h1;have h2:=Bj t hs;have h3:=h.sz;exact ⟨h1.1,by show (zI (.node ids k)).length < _; omega⟩
 refine ⟨⟨h.ok.cl,h.ok.nd,?_⟩,by show t.length<=1000; omega,by rw [e']; exact hs.1,by rw [e']; exact hs.2,fun h0=>(by cases h0)⟩;intro j a n m sz mk hj;have:=h.ok.bd _ _ _ _ _ _ hj;omega
def putc (x:HX):Nat:=bif HX.puts x then x.fin.c+1 else x.c
theorem Tr.puts {D:Dg} {T:TT} {N:Nat->NO} {c r:Nat} {K:Int} (h:Tr D T N c r K) {t i:B}:HX.puts ⟨true,N,c,r,t,i⟩=true ↔ nN t i=true/\¬ jS t i T/\szT T < 20000:=by
 obtain ⟨F,hF,_⟩:=h.rep;unfold HX.puts;rw [aO,aO,bV,bV,<- Bool.not_eq_true,h.has,decide_eq_false_iff_not];show _/\_/\¬ (20000<=szN N r) ↔ _;rw [(zQ hF).2];have:(¬ (20000:Int)<=((szT T:Nat):Int)) ↔ szT T < 20000:=by omega
 rw [this]
theorem Tr.put {D:Dg} {T:TT} {N:Nat->NO} {c r:Nat} {K:Int} (h:Tr D T N c r K) (hK:0<=K) {t i:B} (hp:HX.puts ⟨true,N,c,r,t,i⟩=true) {y:Nat} (hy:chS.post ⟨true,N,c,r,t,i⟩ y) :
  Tr D (nG i t T) (sL ⟨true,N,c,r,t,i⟩ y) (putc ⟨true,N,c,r,t,i⟩) r (K+1000):=by
 have e:sL ⟨true,N,c,r,t,i⟩ y=jL true (chN true ⟨N,c,r⟩ t).N (chN true ⟨N,c,r⟩ t).x y i:=by
  unfold sL;rw [hp];rfl
 have ec:putc ⟨true,N,c,r,t,i⟩=(chN true ⟨N,c,r⟩ t).c+1:=by
  unfold putc;rw [hp];rfl
 have hy':(y=Eu (chN true ⟨N,c,r⟩ t).N (chN true ⟨N,c,r⟩ t).x/\fV (chN true ⟨N,c,r⟩ t).N y≠[])\/y=(chN true ⟨N,c,r⟩ t).c:=hy rfl;obtain ⟨hv,hm,hz⟩:=h.puts.1 hp;obtain ⟨F,hF,hFc⟩:=h.rep;obtain ⟨_,h2⟩:=zX (D:=D) (i:=i) t hF hFc h.ok.cl.free h.wf;obtain ⟨F',p⟩:=h2 y hy';have hl:=xG hv;have hsz:=oK (i:=i) t h.wf;have hch:=P7 (p:=true) t h.ok hK;have h3:=Ty hch (i:=i) hy' r (Ez (p:=true) t h.ok hK h.ok.nd);rw [e,ec];refine ⟨⟨F',p.rep,fun z hz=>?_⟩,⟨h3.cl,h3.nd,?_⟩,yO t h.wf hm,fun t' i' h'=>?_,by omega⟩
 ·have:=p.le;rcases p.new z hz with h1|h1
  ·have:=hFc z h1; omega
  ·exact h1.2
 ·intro j a n m sz mk hj;have:=h3.bd _ _ _ _ _ _ hj;omega
 ·rcases (uA t h.wf).1 h' with ⟨rfl,rfl⟩|h'
  ·exact hv
  ·exact h.val t' i' h'
end T18
end
section
open Go Go.Eng Go.Proofs T1 T2 T3 T4 T5 T6 T7 T8 T9 T10 T11 T12 T13 T14 T15 T16 T17 T18
set_option maxRecDepth 100000
namespace T19
def N0:Nat->NO:=fun _=>.none
theorem cl0:Cl N0 0:=⟨fun _ _=>rfl,fun _ _ _ _ _ _ h=>(by cases h),fun _ _ _ h=>(by cases h),fun _ _ _ _ _ _ h=>(by cases h),fun _ _ _ _ _ _ h=>(by cases h),fun _ _ _ _ _ _ _ _ _ _ _ h=>(by cases h),fun _ _ _ h=>(by cases h)⟩
theorem tr0 (D:Dg):Tr D emp (lE N0 0) 3 1 0:=by
 have hc:=Cl.open cl0;have e1:lE N0 0 1=.node 2 0 0 0 []:=wX;refine ⟨⟨fun z=>z=1\/z=0\/z=2\/False,?_,?_⟩,⟨hc,⟨_,_,_,_,_,e1⟩,?_⟩,sB,fun t i h=>absurd h wS,by decide⟩
 ·simp only [emp,iM];refine ⟨2,0,[],[],0,fun _=>False,e1,.inl ⟨rfl,trivial⟩,rfl,.inl rfl,.refl _,?_,by omega,by omega,id,id,id,fun _=>dP⟩;simp only [lO];exact fun _ h=>h
 ·rintro z (h|h|h|h) <;> first|omega|exact h.elim
 ·intro i a n m sz mk h;have h':lE N0 0 i=.node a n m sz mk:=h;unfold lE at h';rcases fD h' with ⟨_,k⟩|⟨_,k⟩
  ·cases k; decide
  ·rcases fD k with ⟨_,k⟩|⟨_,k⟩ <;> cases k
def Bt (T:TT) (t i:B):Bool :=
 match gG t T with
 | some s=>decide (i∈zI s)
 | none=>false
theorem pL {T:TT} {t i:B}:Bt T t i=true ↔ jS t i T:=by
 unfold Bt jS;cases gG t T with
 | none=>simp
 | some s=>simp
def pcT (T:TT) (k:Ky):Int:=bif nN k.1 k.2 then (bif Bt T k.1 k.2 then 8 else bif decide (20000<=szT T) then 22 else 0) else 1
def A7:List Ky->TT->Int×TT
 | [],T=>(0,T)
 | k::l,T=>if pcT T k=0 then A7 l (nG k.2 k.1 T) else (pcT T k,T)
def iJ (l:List Ky):Int×TT:=if 20000 < l.length then (2,emp) else if l.any pG=true then (1,emp) else A7 l emp
theorem _root_.T18.Tr.code {D:Dg} {T:TT} {N:Nat->NO} {c r:Nat} {K:Int} (h:Tr D T N c r K) {t i:B}:rC ⟨true,N,c,r,t,i⟩=pcT T (t,i):=by
 have e1:HX.has ⟨true,N,c,r,t,i⟩=Bt T t i:=by rw [cA,h.has,pL]
 have e2:szN N r=(szT T:Nat):=by obtain ⟨F,hF,_⟩:=h.rep; exact (zQ hF).2
 unfold rC pcT;rw [e1];show (bif nN t i then (bif Bt T t i then 8 else bif decide (20000<=szN N r) then 22 else 0) else 1)=_;rw [e2];have:decide ((20000:Int)<=((szT T:Nat):Int))=decide (20000<=szT T):=by rw [decide_eq_decide]; omega
 rw [this]
theorem _root_.T18.Tr.puts0 {D:Dg} {T:TT} {N:Nat->NO} {c r:Nat} {K:Int} (h:Tr D T N c r K) {t i:B}:HX.puts ⟨true,N,c,r,t,i⟩=decide (pcT T (t,i)=0):=by
 rw [cA,h.puts,decide_eq_true_iff,<- pL];unfold pcT;cases h1:nN t i <;> cases h2:Bt T t i <;> cases h3:decide (20000<=szT T) <;> simp_all <;> omega
end T19
end
section
open Go Go.Eng Go.Proofs T1 T2 T3 T4 T5 T6 T7 T8 T9 T10 T11 T12 T13 T14 T15 T16 T17 T18 T19
set_option maxRecDepth 100000
namespace T20
structure NY where
 e:Int
 o:Bool
 N:Nat->NO
 c:Nat
 r:Nat
 K:Int
def nyE (y:NY):SV:=bif y.o then .own 0 0 else .val (.pointer none)
def nyH (y:NY):List (Nat×aT):=bif y.o then tH 0 1 y.r y.N else []
def g11:List Nat:=[10,12,0,17,19,16,6,26,7,18,4,2,3]
def c11:bH :=
 .seq (.region g11 [(zo 2 (.move (.c (.nilptr)))),(zo 3 (.move (cj 0)))]) (.seq (.seq (.region g11 [(mv 8 0),(zo 9 (.lenSl (.s 8))),(zo 10 (.bin (.gtr) (.s 9) (cj 20000)))]) (.cond (.s 10) (.seq (.region g11 [(zo 2 (.move (.c (.nilptr)))),(zo 3 (.move (cj 2)))]) .ret) .skip)) (.seq (.seq (.region g11 [(mv 11 0),(zo 12 (.call (.c (.fn 36)) [.s 11,.c (.fn 37)]))]) (.join 0 [2,3] (.cond (.s 12) (.seq (.region g11 [(zo 2 (.move (.c (.nilptr)))),(zo 3 (.move (cj 1)))]) .ret) .skip))) (.seq (.region g11 [(zo 13 (.call (.c (.fn 39)) [])),(zo 14 (.build (.cons (.nilptr) .nil) [(0,1,.s 13)])),(zo 15 (.box 64 (.s 14))),(mv 4 15)]) (.seq (.seq (.region g11 [(mv 16 0),(zo 17 (.lenSl (.s 16))),(zo 18 (.move (cj 0)))]) (.block 0 (.loop 1 [19,20,21,6,22,23,24,7,25,26,27,2,3,28,18] (.seq (.region g11 [(zo 19 (.bin (.lss) (.s 18) (.s 17)))]) (.seq (.cond (.s 19) .skip (.exit 0)) (.seq (.block 1 (.seq (.region g11 [(zo 20 (.idxSl 2 (.s 16) (.s 18))),(zo 21 (.load 2 true (.s 20))),(zo 6 (.alloc 32 (.cons (.str []) (.cons (.str []) .nil)))),⟨none,none,.store 2 (.s 6) (.s 21),[]⟩]) (.seq (.region g11 [(mv 22 4),(zo 23 (.load 2 true (.s 6))),(zo 24 (.call (.c (.fn 15)) [.s 22,.s 23])),(mv 7 24)]) (.seq (.region g11 [(mv 25 7),(zo 26 (.bin (.neq) (.s 25) (cj 0)))]) (.cond (.s 26) (.seq (.region g11 [(mv 27 7),(zo 2 (.move (.c (.nilptr)))),(mv 3 27)]) .ret) .skip))))) (.region g11 [(zo 28 (.bin (.add) (.s 18) (cj 1))),(mv 18 28)]))))))) (.seq (.region g11 [(mv 29 4),(mv 2 29),(zo 3 (.move (cj 0)))]) .ret)))))
theorem e11:cR Tryz.prog 11 g11 [1] [] []=some (c11,[.slot 2,.slot 3],30):=by kernel_rfl
def Y6 (D:Dg):bU where
 X:=List Ky
 Y:=NY
 args:=fun l=>.cons (ksE l) .nil
 pre:=fun l=>l.length < 4611686018427387904/\∀ j,j < l.length->(l.getD j k0).1.length < 4611686018427387904
 h0:=fun _=>[]
 nx0:=0
 post:=fun l y=>(y.e=(iJ l).1/\y.o=decide (y.e=0))/\(y.o=true->Tr D (iJ l).2 y.N y.c y.r y.K/\0<=y.K/\y.K<=20000000)
 res:=fun _ y=>.tup (.cons (nyE y) (.cons (.int .i64 y.e) .nil))
 h1:=fun _ y=>nyH y
 nx1:=2
theorem Ru (D:Dg):(Y6 D).Ok Tryz.prog 11:=by
 refine Eng.bU.okR e11 .nil (fun _=>[(36,.m Z6),(39,.m Y9),(15,.m R5)]) (fun _ _=>aZ.m Tt (aZ.m Rz (aZ.m Kg aZ.nil))) ?_;rintro (l:List Ky) ⟨(hn:l.length < 4611686018427387904),(ht:∀ j,j < l.length->(l.getD j k0).1.length < 4611686018427387904)⟩;refine ⟨trivial,?_⟩;repeat' (first|refine aA ?_ ?_)
 ·refine fun (h:decide ((l.length:Int) > 20000)=true)=>?_;have h0:20000 < l.length:=by have:=of_decide_eq_true h; omega
  have e:iJ l=(2,emp):=if_pos h0;have p1:(NY.mk 2 false N0 0 0 0).e=(iJ l).1:=by rw [e]
  have p2:(NY.mk 2 false N0 0 0 0).o=true->Tr D (iJ l).2 (NY.mk 2 false N0 0 0 0).N (NY.mk 2 false N0 0 0 0).c (NY.mk 2 false N0 0 0 0).r (NY.mk 2 false N0 0 0 0).K/\0<=(NY.mk 2 false N0 0 0 0).K/\(NY.mk 2 false N0 0 0 0).K<=20000000:=fun h=>(by cases h);refine aB (NY.mk 2 false N0 0 0 0) ?_;repeat' (first|(with_reducible first|exact p1|exact p2)|apply aA|exact trivial|exact rfl)
 ·refine fun (h:decide ((l.length:Int) > 20000)=false)=>?_;have h0:¬ 20000 < l.length:=by have:=of_decide_eq_false h; omega
  refine aB l (aB [] ?_);repeat' (first|apply aA|exact trivial|exact rfl|exact fun (j:Nat) (hj:j < _)=>Or.inl (gJ _ _ _ _)|exact hn|exact ht)
  refine fun (y:Bool) (hy:y=l.any pG)=>?_;subst hy;refine aB ⟨Unit,fun _=>l.any pG=false,fun _=>[],fun _=>[(20,.fam fun _=>.gone)],fun _=>0⟩ (aA ?_ ?_)
  ·repeat' (first|refine aA ?_ ?_)
   ·refine fun (hb:l.any pG=true)=>?_;have e:iJ l=(1,emp):=by unfold T19.iJ; rw [if_neg h0,if_pos hb]
    have p1:(NY.mk 1 false N0 0 0 0).e=(iJ l).1:=by rw [e]
    have p2:(NY.mk 1 false N0 0 0 0).o=true->Tr D (iJ l).2 (NY.mk 1 false N0 0 0 0).N (NY.mk 1 false N0 0 0 0).c (NY.mk 1 false N0 0 0 0).r (NY.mk 1 false N0 0 0 0).K/\0<=(NY.mk 1 false N0 0 0 0).K/\(NY.mk 1 false N0 0 0 0).K<=20000000:=fun h=>(by cases h);refine aB (NY.mk 1 false N0 0 0 0) ?_;repeat' (first|(with_reducible first|exact p1|exact p2)|apply aA|exact trivial|exact rfl)
   ·refine fun (hb:l.any pG=false)=>?_;refine aB () ?_;repeat' (first|with_reducible exact hb|apply aA|exact trivial|exact rfl|exact fun _=>rfl|exact fun (j:Nat) (hj:j < _)=>Or.inl (gJ _ _ _ _)|fail)
  rintro ⟨⟩ (hb:l.any pG=false);have e:iJ l=A7 l emp:=by unfold T19.iJ; rw [if_neg h0,if_neg (by rw [hb]; simp)]
  have hc0:Cl N0 0:=cl0;refine aB (N0,0) (aB [20] ?_);repeat' (first|apply aA|exact trivial|exact fun _=>rfl|exact hc0)
  refine fun (_:Unit) (_:True)=>?_;refine ⟨⟨Nat×TT×(Nat->NO)×Nat×Nat×Int,fun s=>s.1<=l.length/\A7 (l.drop s.1) s.2.1=T19.iJ l/\Tr D s.2.1 s.2.2.1 s.2.2.2.1 s.2.2.2.2.1 s.2.2.2.2.2/\0<=s.2.2.2.2.2/\s.2.2.2.2.2<=(s.1:Int) * 1000,fun s=>[(18,.int .i64 (s.1:Int)),(4,.own 40 0)],fun s=>tH 40 20 s.2.2.2.2.1 s.2.2.1,fun s=>l.length - s.1⟩,(0,emp,lE N0 0,3,1,0),?_,?_,?_⟩
  ·exact ⟨bB _,e.symm,tr0 D,by decide,by decide⟩
  ·repeat' (first|apply aA|exact trivial|exact rfl|exact fun (j:Nat) (hj:j < _)=>Or.inl (gJ _ _ _ _)|exact fun i=>mO (by exact rfl) (by exact rfl) _|fail)
  rintro ⟨j,T,N,c,r,K⟩ ⟨(kj:j<=l.length),(k1:A7 (l.drop j) T=T19.iJ l),(k2:Tr D T N c r K),(k3:0<=K),(k4:K<=(j:Int) * 1000)⟩;repeat' (first|refine aA ?_ ?_)
  ·refine fun (hg:decide ((j:Int) < (l.length:Int))=true)=>?_;have hj:j < l.length:=by have:=of_decide_eq_true hg; omega
   have g0:(0:Int)<=(j:Int):=by omega
   have g1:(j:Int) < (l.length:Int):=by omega
   have g2:-9223372036854775808<=(j:Int)+1:=by omega
   have g3:(j:Int)+1<=9223372036854775807:=by omega
   have hdr:l.drop j=l.getD j k0::l.drop (j+1):=by rw [dG hj]; simp [hj]
   have hK:K<=1000000000000:=by omega
   have hpre:=k2.E5 (t:=(l.getD j k0).1) (i:=(l.getD j k0).2) hK (ht j hj);have hcode:=k2.code (t:=(l.getD j k0).1) (i:=(l.getD j k0).2);repeat' (first|apply aA|(with_reducible first|exact g0|exact g1))
   refine aB (HX.mk true N c r (l.getD j k0).1 (l.getD j k0).2) (aB [40,20] ?_);repeat' (first|exact hpre|apply aA|exact trivial|exact rfl|exact fun i=>nB (by exact rfl) (N i)|fail)
   refine fun (y:Nat) (hy:HX.puts ⟨true,N,c,r,(l.getD j k0).1,(l.getD j k0).2⟩=true->chS.post ⟨true,N,c,r,(l.getD j k0).1,(l.getD j k0).2⟩ y)=>?_;repeat' (first|refine aA ?_ ?_)
   ·refine fun (hc:(!decide (rC ⟨true,N,c,r,(l.getD j k0).1,(l.getD j k0).2⟩=0))=true)=>?_;have hne:rC ⟨true,N,c,r,(l.getD j k0).1,(l.getD j k0).2⟩≠0:=of_decide_eq_false (T12.U7 hc);have k5:T19.iJ l=(rC ⟨true,N,c,r,(l.getD j k0).1,(l.getD j k0).2⟩,T):=by
     rw [<- k1,hdr,A7,hcode];rw [hcode] at hne;rw [if_neg hne]
    have p1:(NY.mk (rC ⟨true,N,c,r,(l.getD j k0).1,(l.getD j k0).2⟩) false N0 0 0 0).e=(T19.iJ l).1:=by rw [k5]
    have p3:false=decide (rC ⟨true,N,c,r,(l.getD j k0).1,(l.getD j k0).2⟩=0):=(decide_eq_false hne).symm;refine aB (NY.mk (rC ⟨true,N,c,r,(l.getD j k0).1,(l.getD j k0).2⟩) false N0 0 0 0) ?_;repeat' (first|with_reducible exact p1|exact p3|apply aA|exact trivial|exact rfl|exact zf|fail)
   ·refine fun (hc:(!decide (rC ⟨true,N,c,r,(l.getD j k0).1,(l.getD j k0).2⟩=0))=false)=>?_;have he:rC ⟨true,N,c,r,(l.getD j k0).1,(l.getD j k0).2⟩=0:=of_decide_eq_true (T12.U6 hc);have hpu:HX.puts ⟨true,N,c,r,(l.getD j k0).1,(l.getD j k0).2⟩=true:=by rw [k2.puts0,<- hcode]; exact decide_eq_true he
    have k5:=k2.put k3 hpu (hy hpu);have k6:A7 (l.drop (j+1)) (nG (l.getD j k0).2 (l.getD j k0).1 T)=T19.iJ l:=by
     rw [<- k1,hdr];show _=if pcT T (l.getD j k0)=0 then _ else _
     rw [hcode] at he;rw [if_pos he]
    have kj':j+1<=l.length:=hj;have k7:0<=K+1000:=by omega
    have k8:K+1000<=((j+1:Nat):Int) * 1000:=by omega
    have k9:l.length - (j+1) < l.length - j:=by omega
    repeat' (first|apply aA|(with_reducible first|exact g2|exact g3))
    refine aB (j+1,nG (l.getD j k0).2 (l.getD j k0).1 T,sL ⟨true,N,c,r,(l.getD j k0).1,(l.getD j k0).2⟩ y,putc ⟨true,N,c,r,(l.getD j k0).1,(l.getD j k0).2⟩,r,K+1000) ?_;repeat' (first|(with_reducible first|exact kj'|exact k6|exact k5|exact k7|exact k8|exact k9)|apply aA|exact trivial|exact rfl|exact fun (j:Nat) (hj:j < _)=>Or.inl (gJ _ _ _ _)|exact fun i=>mO (by exact rfl) (by exact rfl) _|fail)
  ·refine fun (hg:decide ((j:Int) < (l.length:Int))=false)=>?_;have hj:j=l.length:=by have:=of_decide_eq_false hg; omega
   subst hj;have k5:T19.iJ l=(0,T):=by rw [<- k1,gM]; rfl
   have p1:(NY.mk 0 true N c r K).e=(T19.iJ l).1:=by rw [k5]
   have p2:(NY.mk 0 true N c r K).o=true->Tr D (T19.iJ l).2 (NY.mk 0 true N c r K).N (NY.mk 0 true N c r K).c (NY.mk 0 true N c r K).r (NY.mk 0 true N c r K).K/\0<=(NY.mk 0 true N c r K).K/\(NY.mk 0 true N c r K).K<=20000000:=fun _=>by rw [k5]; exact ⟨k2,k3,by show K<=_; omega⟩
   refine aB (NY.mk 0 true N c r K) ?_;repeat' (first|(with_reducible first|exact p1|exact p2)|apply aA|exact trivial|exact rfl|exact fun i=>nB (by exact rfl) (N i)|fail)
end T20
end
section
open Go Go.Eng Go.Proofs T1 T2 T3 T4 T5 T6 T10 T11
set_option maxRecDepth 100000
namespace T21
def g13:List Nat:=[1,9,0,3,17,5,4]
def c13:bH :=
 .seq (.region g13 [(zo 3 (.box 32 (.s 1))),(zo 4 (.move (cj 0)))]) (.seq (.seq (.region g13 [(zo 5 (.move (cj 0)))]) (.block 0 (.loop 0 [6,7,8,9,12,13,14,15,16,17,18,4,10,11,5] (.seq (.seq (.region g13 [(mv 6 5),(mv 7 0),(zo 8 (.lenSl (.s 7))),(zo 9 (.bin (.lss) (.s 6) (.s 8)))]) (.cond (.s 9) .skip (.exit 0))) (.seq (.block 1 (.seq (.drawn g13 (.pure 0 (mv 12 0) (.pure 1 (mv 13 5) (.pure 2 (zo 14 (.idxSl 2 (.s 12) (.s 13))) (.pure 3 (zo 15 (.load 2 true (.s 14))) (.pure 4 (zo 16 (.load 2 true (.s 3))) (.pure 5 (zo 17 (.eqS false [(0,2),(1,2)] (.s 15) (.s 16))) .done))))))) (.cond (.s 17) (.seq (.region g13 [(mv 18 5),(mv 4 18)]) .ret) .skip))) (.region g13 [(mv 10 5),(zo 11 (.bin (.add) (.s 10) (cj 1))),(mv 5 11)])))))) (.seq (.region g13 [(zo 4 (.move (cj (-1))))]) .ret))
end T21
end
section
open Go Go.Eng Go.Proofs T1 T2 T3 T4 T5 T6 T10 T11 T21
set_option maxRecDepth 100000
namespace T22
theorem Qm {α:Type} {a b:List α} {d:α} (hl:a.length=b.length) (h:∀ j,j < a.length->a.getD j d=b.getD j d):a=b:=by
 refine kB hl fun j h1 h2=>?_;have:=h j h1;simpa [h1,h2] using this
def g31:List Nat:=[10,14,0,1,25,5,4]
def c31:bH :=
 .seq (.region g31 [(zo 4 (.move cF))]) (.seq (.seq (.region g31 [(mv 6 0),(zo 7 (.lenSl (.s 6))),(mv 8 1),(zo 9 (.lenSl (.s 8))),(zo 10 (.bin (.neq) (.s 7) (.s 9)))]) (.cond (.s 10) (.seq (.region g31 [(zo 4 (.move cF))]) .ret) .skip)) (.seq (.seq (.region g31 [(zo 5 (.move (cj 0)))]) (.block 0 (.loop 0 [11,12,13,14,17,18,19,20,21,22,23,24,25,4,15,16,5] (.seq (.seq (.region g31 [(mv 11 5),(mv 12 0),(zo 13 (.lenSl (.s 12))),(zo 14 (.bin (.lss) (.s 11) (.s 13)))]) (.cond (.s 14) .skip (.exit 0))) (.seq (.block 1 (.seq (.drawn g31 (.pure 0 (mv 17 0) (.pure 1 (mv 18 5) (.pure 2 (zo 19 (.idxSl 1 (.s 17) (.s 18))) (.pure 3 (ld 20 19) (.pure 4 (mv 21 1) (.pure 5 (mv 22 5) (.pure 6 (zo 23 (.idxSl 1 (.s 21) (.s 22))) (.pure 7 (ld 24 23) (.pure 8 (zo 25 (.bin (.neq) (.s 20) (.s 24))) .done)))))))))) (.cond (.s 25) (.seq (.region g31 [(zo 4 (.move cF))]) .ret) .skip))) (.region g31 [(mv 15 5),(zo 16 (.bin (.add) (.s 15) (cj 1))),(mv 5 16)])))))) (.seq (.region g31 [(zo 4 (.move cT))]) .ret)))
theorem e31:cR Tryz.prog 31 g31 [] [] []=some (c31,[.slot 4],26):=by kernel_rfl
def aBt:Eng.Spec where
 X:=List B×List B
 args:=fun x=>.cons (slE x.1) (.cons (slE x.2) .nil)
 pre:=fun x=>x.1.length < 4611686018427387904
 res:=fun x=>.bool (decide (x.1=x.2))
 inst:=fun _=>none
theorem Zq:aBt.Ok Tryz.prog 31:=by
 refine Eng.Spec.okR e31 .nil (fun _=>[]) (fun _ _=>aZ.nil) ?_;rintro ⟨a,b⟩ (hn:a.length < 4611686018427387904);refine ⟨trivial,?_⟩;repeat' (first|refine aA ?_ ?_)
 ·refine fun (h:(!decide ((a.length:Int)=(b.length:Int)))=true)=>?_;have hne:a≠b:=by
   rintro rfl;simp at h
  have e:false=decide (a=b):=(decide_eq_false hne).symm;repeat' (first|exact e)
 ·refine fun (h:(!decide ((a.length:Int)=(b.length:Int)))=false)=>?_;have hl:a.length=b.length:=by
   have:decide ((a.length:Int)=(b.length:Int))=true:=by revert h; cases decide ((a.length:Int)=(b.length:Int)) <;> simp
   have:=of_decide_eq_true this;omega
  refine ⟨⟨Nat,fun k=>k<=a.length/\∀ j,j < k->a.getD j []=b.getD j [],fun k=>[(5,.int .i64 (k:Int))],fun _=>[],fun k=>a.length - k⟩,0,⟨bB _,fun j hj=>absurd hj (bP j)⟩,?_,?_⟩
  ·repeat' (first|apply aA|exact trivial|exact rfl|exact fun (j:Nat) (hj:j < _)=>Or.inl (fB _ _ _ _)|fail)
  rintro (k:Nat) ⟨(hk:k<=a.length),(hf:∀ j,j < k->a.getD j []=b.getD j [])⟩;repeat' (first|refine aA ?_ ?_)
  ·refine fun (hg:decide ((k:Int) < (a.length:Int))=true)=>?_;have h1:(k:Int) < (a.length:Int):=of_decide_eq_true hg;have h2:(k:Int) < (b.length:Int):=by omega
   have h0:(0:Int)<=(k:Int):=by omega
   have b1:-9223372036854775808<=(k:Int)+1:=by omega
   have b2:(k:Int)+1<=9223372036854775807:=by omega
   have hkl:k < a.length:=by omega
   repeat' (first|apply aA|(with_reducible first|exact h0|exact h1|exact h2))
   ·refine fun (hv:(!decide (a.getD k []=b.getD k []))=true)=>?_;have hne:a≠b:=by
     rintro rfl;simp at hv
    have e:false=decide (a=b):=(decide_eq_false hne).symm;repeat' (first|exact e)
   ·refine fun (hv:(!decide (a.getD k []=b.getD k []))=false)=>?_;have hv':a.getD k []=b.getD k []:=by
     have:decide (a.getD k []=b.getD k [])=true:=by revert hv; cases decide (a.getD k []=b.getD k []) <;> simp
     exact of_decide_eq_true this
    have hkl':k+1<=a.length:=hkl;have hf':∀ j,j < k+1->a.getD j []=b.getD j []:=fun j hj=>by
     by_cases e:j=k
     ·rw [e]; exact hv'
     ·exact hf j (by omega)
    have hms:a.length - (k+1) < a.length - k:=by omega
    repeat' (first|apply aA|(with_reducible first|exact b1|exact b2))
    refine aB (k+1) ?_;repeat' (first|apply aA|exact trivial|exact rfl|(with_reducible first|exact hkl'|exact hf'|exact hms)|exact fun (j:Nat) (hj:j < _)=>Or.inl (fB _ _ _ _)|fail)
  ·refine fun (hg:decide ((k:Int) < (a.length:Int))=false)=>?_;have hkl:k=a.length:=by have:=of_decide_eq_false hg; omega
   subst hkl;have e:true=decide (a=b):=(decide_eq_true (Qm hl hf)).symm;repeat' (first|exact e)
def aBs:bU:=aBt.mof Bool (fun x y=>y=decide (x.1=x.2)) (fun _ y=>.bool y)
theorem Vu:aBs.Ok Tryz.prog 31:=Eng.Spec.pR Zq fun _ _=>⟨_,rfl,rfl⟩
def nA (k:Ky):Bool:=decide (k.1.length<=40) && decide (k.2.length<=40)
def uH (l:List Ky) (n:Nat):Bool:=decide (l.length<=n) && l.all nA
def g17:List Nat:=[14,32,5,0,1,4]
def c17:bH :=
 .seq (.region g17 [(zo 4 (.move cF))]) (.seq (.seq (.region g17 [(zo 5 (.move (cj 0)))]) (.block 0 (.loop 0 [6,7,8,9,10,11,12,13,14,17,18,19,20,21,22,23,24,25,26,27,28,29,30,31,32,4,15,16,5] (.seq (.seq (.region g17 [(mv 6 5),(mv 7 0),(zo 8 (.lenSl (.s 7))),(zo 9 (.bin (.lss) (.s 6) (.s 8))),(mv 10 9),(mg 11 10 true 5),(mg 12 10 true 1),(zg 13 10 true (.bin (.lss) (.s 11) (.s 12))),(zo 14 (.pick (.s 10) (.s 13) cF))]) (.cond (.s 14) .skip (.exit 0))) (.seq (.block 1 (.seq (.region g17 [(mv 17 0),(mv 18 5),(zo 19 (.idxSl 2 (.s 17) (.s 18))),(fa 20 0 19),(ld 21 20),(zo 22 (.lenStr (.s 21))),(zo 23 (.bin (.gtr) (.s 22) (cj 40))),(mv 24 23),(mg 25 24 false 0),(mg 26 24 false 5),(zg 27 24 false (.idxSl 2 (.s 25) (.s 26))),(fg 28 24 false 1 27),(lg 29 24 false 28),(zg 30 24 false (.lenStr (.s 29))),(zg 31 24 false (.bin (.gtr) (.s 30) (cj 40))),(zo 32 (.pick (.s 24) cT (.s 31)))]) (.cond (.s 32) (.seq (.region g17 [(zo 4 (.move cF))]) .ret) .skip))) (.region g17 [(mv 15 5),(zo 16 (.bin (.add) (.s 15) (cj 1))),(mv 5 16)])))))) (.seq (.region g17 [(mv 33 0),(zo 34 (.lenSl (.s 33))),(mv 35 1),(zo 36 (.bin (.leq) (.s 34) (.s 35))),(mv 4 36)]) .ret))
theorem e17:cR Tryz.prog 17 g17 [] [] []=some (c17,[.slot 4],37):=by kernel_rfl
def aAm:Eng.Spec where
 X:=List Ky×Nat
 args:=fun x=>.cons (ksE x.1) (.cons (.int .i64 (x.2:Int)) .nil)
 pre:=fun x=>x.1.length < 4611686018427387904
 res:=fun x=>.bool (uH x.1 x.2)
 inst:=fun _=>none
theorem X6:aAm.Ok Tryz.prog 17:=by
 refine Eng.Spec.okR e17 .nil (fun _=>[]) (fun _ _=>aZ.nil) ?_;rintro ⟨l,n⟩ (hn:l.length < 4611686018427387904);refine ⟨trivial,?_⟩;refine ⟨⟨Nat,fun k=>(k<=l.length/\k<=n)/\∀ j,j < k->nA (l.getD j k0)=true,fun k=>[(5,.int .i64 (k:Int))],fun _=>[],fun k=>l.length - k⟩,0,⟨⟨bB _,bB _⟩,fun j hj=>absurd hj (bP j)⟩,?_,?_⟩
 ·repeat' (first|apply aA|exact trivial|exact rfl|exact fun (j:Nat) (hj:j < _)=>Or.inl (gJ _ _ _ _)|fail)
 rintro (k:Nat) ⟨⟨(hk:k<=l.length),(hkn:k<=n)⟩,(hf:∀ j,j < k->nA (l.getD j k0)=true)⟩;have b1:-9223372036854775808<=(k:Int)+1:=by omega
 have b2:(k:Int)+1<=9223372036854775807:=by omega
 have h0:(0:Int)<=(k:Int):=by omega
 repeat' (first|refine aA ?_ ?_)
 ·refine fun (hg:cS (decide ((k:Int) < (l.length:Int))) (.s 13) cF (decide ((k:Int) < (n:Int))) false=true)=>?_;rw [dE,aO,decide_eq_true_eq,decide_eq_true_eq] at hg;have h1:=hg.1;have hkl:k < l.length:=by omega
  repeat' (first|apply aA|(with_reducible first|exact h0|exact h1))
  ·refine fun _=>?_;repeat' (first|apply aA|(with_reducible first|exact h0|exact h1))
  ·refine fun (hv:cS (decide (((l.getD k k0).1.length:Int) > 40)) cT (.s 31) true (decide (((l.getD k k0).2.length:Int) > 40))=true)=>?_;rw [iZ,fW,decide_eq_true_eq,decide_eq_true_eq] at hv;have e:false=uH l n:=by
    symm;unfold uH;have:l.all nA=false:=by
     rw [List.all_eq_false];refine ⟨l.getD k k0,?_,?_⟩
     ·rw [aE,aH hkl]; exact dN hkl
     ·unfold nA;rw [aO,decide_eq_true_eq,decide_eq_true_eq];omega
    rw [this,lJ]
   repeat' (first|exact e)
  ·refine fun (hv:cS (decide (((l.getD k k0).1.length:Int) > 40)) cT (.s 31) true (decide (((l.getD k k0).2.length:Int) > 40))=false)=>?_;rw [iZ,eD,decide_eq_false_iff_not,decide_eq_false_iff_not] at hv;have hkl':k+1<=l.length:=hkl;have hkn':k+1<=n:=by omega
   have hf':∀ j,j < k+1->nA (l.getD j k0)=true:=fun j hj=>by
    by_cases e:j=k
    ·rw [e]; unfold nA; rw [aO,decide_eq_true_eq,decide_eq_true_eq]; omega
    ·exact hf j (by omega)
   have hms:l.length - (k+1) < l.length - k:=by omega
   repeat' (first|apply aA|(with_reducible first|exact b1|exact b2))
   refine aB (k+1) ?_;repeat' (first|apply aA|exact trivial|exact rfl|(with_reducible first|exact hkl'|exact hkn'|exact hf'|exact hms)|exact fun (j:Nat) (hj:j < _)=>Or.inl (gJ _ _ _ _)|fail)
 ·refine fun (hg:cS (decide ((k:Int) < (l.length:Int))) (.s 13) cF (decide ((k:Int) < (n:Int))) false=false)=>?_;rw [dE,Bool.and_eq_false_iff,decide_eq_false_iff_not,decide_eq_false_iff_not] at hg;have e:decide ((l.length:Int)<=(n:Int))=uH l n:=by
   unfold uH;by_cases hl:l.length<=n
   ·have hkl:k=l.length:=by omega
    have:l.all nA=true:=by
     rw [fI];intro x hx;obtain ⟨j,hj,rfl⟩:=cU hx;have:=hf j (by omega);simpa [hj] using this
    rw [this,decide_eq_true hl,decide_eq_true (by omega)]; rfl
   ·rw [decide_eq_false hl,decide_eq_false (by omega)]; rfl
  repeat' (first|exact e)
end T22
end
section
open Go Go.Eng Go.Proofs T1 T2 T3 T4 T5 T6 T10 T11 T21 T22
set_option maxRecDepth 100000
namespace T23
structure ND where
 ids:List B
 bys:B
 kids:List B
 deriving DecidableEq
def ndL (n:ND):SV:=.cons (slE n.ids) (.cons (.str n.bys) (.cons (slE n.kids) .nil))
def g27:List Nat:=[0,1,2,3,4]
def c27:bH :=
 .seq (.region g27 [(zo 2 (.box 39 (.s 0))),(zo 3 (.box 39 (.s 1))),(zo 4 (.move cF))]) (.seq (.region g27 [(fa 5 0 2),(ld 6 5),(fa 7 0 3),(ld 8 7),(zo 9 (.call (.c (.fn 31)) [.s 6,.s 8])),(mv 10 9),(fg 11 10 true 1 2),(lg 12 10 true 11),(fg 13 10 true 1 3),(lg 14 10 true 13),(zg 15 10 true (.bin (.eql) (.s 12) (.s 14))),(zo 16 (.pick (.s 10) (.s 15) cF)),(mv 17 16),(fg 18 17 true 2 2),(lg 19 17 true 18),(fg 20 17 true 2 3),(lg 21 17 true 20),(zg 22 17 true (.call (.c (.fn 31)) [.s 19,.s 21])),(zo 23 (.pick (.s 17) (.s 22) cF)),(mv 4 23)]) .ret)
theorem e27:cR Tryz.prog 27 g27 [] [] []=some (c27,[.slot 4],24):=by kernel_rfl
def Wq:Eng.Spec where
 X:=ND×ND
 args:=fun x=>.cons (.agg (ndL x.1)) (.cons (.agg (ndL x.2)) .nil)
 pre:=fun x=>x.1.ids.length < 4611686018427387904/\x.1.kids.length < 4611686018427387904
 res:=fun x=>.bool (decide (x.1=x.2))
 inst:=fun _=>none
theorem Vg:Wq.Ok Tryz.prog 27:=by
 refine Eng.Spec.okR e27 .nil (fun _=>[(31,.m aBs)]) (fun _ _=>aZ.m Vu aZ.nil) ?_;rintro ⟨⟨i1,b1,k1⟩,⟨i2,b2,k2⟩⟩ ⟨(hi:i1.length < 4611686018427387904),(hk:k1.length < 4611686018427387904)⟩;refine ⟨trivial,?_⟩;refine aB (i1,i2) (aB [] ?_);repeat' (first|apply aA|exact trivial|exact rfl|exact fun (j:Nat) (hj:j < _)=>Or.inl (fB _ _ _ _)|exact hi)
 refine fun (y:Bool) (hy:y=decide (i1=i2))=>?_;subst hy;repeat' (first|refine aA ?_ ?_)
 ·refine fun (h:cS (decide (i1=i2)) (.s 15) cF (decide (b1=b2)) false=true)=>?_;rw [dE,aO,decide_eq_true_eq,decide_eq_true_eq] at h;refine aB (k1,k2) (aB [] ?_);repeat' (first|apply aA|exact trivial|exact rfl|exact fun (j:Nat) (hj:j < _)=>Or.inl (fB _ _ _ _)|exact hk)
  refine fun (y:Bool) (hy:y=decide (k1=k2))=>?_;subst hy;have e:cS (cS (decide (i1=i2)) (.s 15) cF (decide (b1=b2)) false) (.s 22) cF (decide (k1=k2)) false=decide (ND.mk i1 b1 k1=ND.mk i2 b2 k2):=by
   rw [dE,dE,h.1,h.2];simp
  repeat' (first|exact e)
 ·refine fun (h:cS (decide (i1=i2)) (.s 15) cF (decide (b1=b2)) false=!true)=>?_;have h':(decide (i1=i2) && decide (b1=b2))=false:=by
   have h0:=h;rw [dE] at h0;exact h0
  have e:false=decide (ND.mk i1 b1 k1=ND.mk i2 b2 k2):=by
   symm;rw [decide_eq_false_iff_not];intro e;cases e;simp at h'
  repeat' (first|apply aA|exact e|exact h)
def k30:List (Nat×Nat×bH×Nat):=[]
end T23
end
section
open Go Go.Eng Go.Proofs T1 T2 T3 T4 T5 T6 T10 T11 T21 T22 T23
set_option maxRecDepth 100000
namespace T24
abbrev Ac:=Bool×Ky
def a0:Ac:=(false,k0)
def Pu (a:Ac):SV:=.cons (.bool a.1) (Ep a.2)
theorem nX (k:Keep) (hp:List (Nat×aT)) (m:Nat) (x:Ac):sub k hp (m+5) (Pu x) (Pu x):=⟨rfl,rfl,rfl,trivial⟩
def acE (l:List Ac):SV:=.slice 3 l.length fun i=>Pu (l.getD i a0)
def X5:bU:=aAm.mof Bool (fun x y=>y=uH x.1 x.2) (fun _ y=>.bool y)
theorem Lv:X5.Ok Tryz.prog 17:=Eng.Spec.pR X6 fun _ _=>⟨_,rfl,rfl⟩
def Ak (l:List Ac):Bool:=decide (l.length<=12) && l.all fun a=>nA a.2
def g12:List Nat:=[7,0,21,3,2]
def c12:bH :=
 .seq (.region g12 [(zo 2 (.move cF))]) (.seq (.seq (.region g12 [(zo 3 (.move (cj 0)))]) (.block 0 (.loop 0 [4,5,6,7,10,11,12,13,14,15,16,17,18,19,20,21,2,8,9,3] (.seq (.seq (.region g12 [(mv 4 3),(mv 5 0),(zo 6 (.lenSl (.s 5))),(zo 7 (.bin (.lss) (.s 4) (.s 6)))]) (.cond (.s 7) .skip (.exit 0))) (.seq (.block 1 (.seq (.region g12 [(mv 10 3),(zo 11 (.bin (.geq) (.s 10) (cj 12))),(mv 12 11),(mg 13 12 false 0),(mg 14 12 false 3),(zg 15 12 false (.idxSl 3 (.s 13) (.s 14))),(fg 16 12 false 1 15),(zg 17 12 false (.load 2 true (.s 16))),(zg 18 12 false (.buildSl 32 2 1 (.cons (.str []) (.cons (.str []) .nil)) [(0,2,.s 17)])),(zg 19 12 false (.call (.c (.fn 17)) [.s 18,cj 1])),(zg 20 12 false (.not (.s 19))),(zo 21 (.pick (.s 12) cT (.s 20)))]) (.cond (.s 21) (.seq (.region g12 [(zo 2 (.move cF))]) .ret) .skip))) (.region g12 [(mv 8 3),(zo 9 (.bin (.add) (.s 8) (cj 1))),(mv 3 9)])))))) (.seq (.region g12 [(zo 2 (.move cT))]) .ret))
theorem e12:cR Tryz.prog 12 g12 [] [] []=some (c12,[.slot 2],22):=by kernel_rfl
def Wi:Eng.Spec where
 X:=List Ac
 args:=fun x=>.cons (acE x) .nil
 pre:=fun x=>x.length < 4611686018427387904
 res:=fun x=>.bool (Ak x)
 inst:=fun _=>none
theorem Ux:Wi.Ok Tryz.prog 12:=by
 refine Eng.Spec.okR e12 .nil (fun _=>[(17,.m X5)]) (fun _ _=>aZ.m Lv aZ.nil) ?_;rintro (l:List Ac) (hn:l.length < 4611686018427387904);refine ⟨trivial,?_⟩;refine ⟨⟨Nat,fun k=>(k<=l.length/\k<=12)/\∀ j,j < k->nA (l.getD j a0).2=true,fun k=>[(3,.int .i64 (k:Int))],fun _=>[],fun k=>l.length - k⟩,0,⟨⟨bB _,bB _⟩,fun j hj=>absurd hj (bP j)⟩,?_,?_⟩
 ·repeat' (first|apply aA|exact trivial|exact rfl|exact fun (j:Nat) (hj:j < _)=>Or.inl (nX _ _ _ _)|fail)
 rintro (k:Nat) ⟨⟨(hk:k<=l.length),(hkn:k<=12)⟩,(hf:∀ j,j < k->nA (l.getD j a0).2=true)⟩;have b1:-9223372036854775808<=(k:Int)+1:=by omega
 have b2:(k:Int)+1<=9223372036854775807:=by omega
 have h0:(0:Int)<=(k:Int):=by omega
 repeat' (first|refine aA ?_ ?_)
 ·refine fun (hg:decide ((k:Int) < (l.length:Int))=true)=>?_;have h1:=of_decide_eq_true hg;have hkl:k < l.length:=by omega
  repeat' (first|refine aA ?_ ?_)
  ·refine fun _=>?_;repeat' (first|apply aA|(with_reducible first|exact h0|exact h1))
  ·refine fun (hv:decide ((k:Int)>=12)=false)=>?_;have h12:=of_decide_eq_false hv;have hl1:[(l.getD k a0).2].length < 4611686018427387904:=by simp
   refine aB ([(l.getD k a0).2],1) (aB [] ?_);repeat' (first|apply aA|exact trivial|exact rfl|exact hl1)
   refine fun (y:Bool) (hy:y=uH [(l.getD k a0).2] 1)=>?_;subst hy;have hfe:uH [(l.getD k a0).2] 1=nA (l.getD k a0).2:=by
    unfold uH;simp
   repeat' (first|refine aA ?_ ?_)
   ·refine fun (hp:cS (decide ((k:Int)>=12)) cT (.s 20) true (!uH [(l.getD k a0).2] 1)=true)=>?_;rw [iZ,hv,iX] at hp;have hp':=T12.U7 hp;have e:false=Ak l:=by
     symm;unfold Ak;have:(l.all fun a=>nA a.2)=false:=by
      rw [List.all_eq_false];refine ⟨l.getD k a0,?_,?_⟩
      ·rw [aE,aH hkl]; exact dN hkl
      ·unfold uH at hp';simpa using hp'
     rw [this,lJ]
    repeat' (first|exact e)
   ·refine fun (hp:cS (decide ((k:Int)>=12)) cT (.s 20) true (!uH [(l.getD k a0).2] 1)=false)=>?_;rw [iZ,hv,iX] at hp;have hp':=T12.U6 hp;have hs:nA (l.getD k a0).2=true:=by
     unfold uH at hp';simpa using hp'
    have hkl':k+1<=l.length:=hkl;have hkn':k+1<=12:=by omega
    have hf':∀ j,j < k+1->nA (l.getD j a0).2=true:=fun j hj=>by
     by_cases e:j=k
     ·rw [e]; exact hs
     ·exact hf j (by omega)
    have hms:l.length - (k+1) < l.length - k:=by omega
    repeat' (first|apply aA|(with_reducible first|exact b1|exact b2))
    refine aB (k+1) ?_;repeat' (first|apply aA|exact trivial|exact rfl|(with_reducible first|exact hkl'|exact hkn'|exact hf'|exact hms)|exact fun (j:Nat) (hj:j < _)=>Or.inl (nX _ _ _ _)|fail)
  ·refine fun (hv:decide ((k:Int)>=12)=!false)=>?_;have h12:(k:Int)>=12:=of_decide_eq_true hv;have e:false=Ak l:=by
    symm;unfold Ak;rw [decide_eq_false (by omega),Bool.false_and]
   repeat' (first|apply aA|exact zh|refine zt ?_|exact e|exact hv|exact fun (h:decide ((k:Int)>=12)=false)=>Bool.noConfusion (hv.symm.trans h)|fail)
 ·refine fun (hg:decide ((k:Int) < (l.length:Int))=false)=>?_;have hkl:k=l.length:=by have:=of_decide_eq_false hg; omega
  have e:true=Ak l:=by
   symm;unfold Ak;rw [aO,decide_eq_true_eq,fI];refine ⟨by omega,fun x hx=>?_⟩;obtain ⟨j,hj,rfl⟩:=cU hx;have:=hf j (by omega);simpa [hj] using this
  repeat' (first|exact e)
end T24
end
section
open Go Go.Eng Go.Proofs T1 T2 T3 T4 T5 T6 T23
set_option maxRecDepth 100000
namespace T25
def lsH (i:Nat) (l:List B):Nat×aT:=(i,.arr 9 1 l.length fun j=>idE (l.getD j []))
theorem P3 {P:Bool->Prop} (h1:P true) (h0:P false):∀ b,P b
 | true=>h1
 | false=>h0
def g80:List Nat:=[4,0,2]
def c80:bH :=
 .seq (.region g80 [(zo 2 (.move (.c (.nilsl))))]) (.seq (.seq (.region g80 [(mv 3 0),(zo 4 (.slNil false (.s 3) (.c (.nilsl))))]) (.cond (.s 4) (.seq (.region g80 [(zo 2 (.move (.c (.nilsl))))]) .ret) .skip)) (.seq (.region g80 [(zo 5 (.buildSl 9 1 0 (.cons (.str []) .nil) [])),(mv 6 0),(zo 7 (.app 9 1 16 (.s 5) (.s 6))),(mv 2 7)]) .ret))
theorem e80:cR Tryz.prog 80 g80 [] [] []=some (c80,[.slot 2],8):=by kernel_rfl
def Z4:bU where
 X:=List B
 Y:=Unit
 args:=fun l=>.cons (slE l) .nil
 pre:=fun l=>l.length<=1000000
 h0:=fun _=>[]
 nx0:=0
 post:=fun _ _=>True
 res:=fun l _=>.lsl 0 1 l.length
 h1:=fun l _=>[lsH 0 l]
 nx1:=1
theorem Xm:Z4.Ok Tryz.prog 80:=by
 refine Eng.bU.okR e80 .nil (fun _=>[]) (fun _ _=>aZ.nil) ?_;rintro (l:List B) (hn:l.length<=1000000);refine ⟨trivial,?_⟩;refine P3 (fun (h:0 < l.length->true=false)=>?_) (fun (_:0 < l.length->false=false)=>?_)
 ·have h0:l.length=0:=by
   rcases gR l.length with h'|h'
   ·exact h'
   ·exact Bool.noConfusion (h h')
  repeat' (first|apply aA|exact zh|refine zt ?_|fail)
  refine aB () ?_;repeat' (first|apply aA|exact trivial|exact h0)
 ·repeat' (first|apply aA|exact zf|refine zt ?_|fail)
  ·exact fun _ _=>rfl
  ·show l.length<=9223372036854775807;omega
  ·show l.length * 16<=140737488355328;omega
  refine aB () ?_;repeat' (first|apply aA|exact trivial|exact rfl|exact fun (j:Nat) (hj:j < _)=>Or.inl (fB _ _ _ _)|fail)
end T25
end
section
open Go Go.Eng Go.Proofs T1 T3 T23 T25 D3
set_option maxRecDepth 100000
namespace D6
def jJ (l:List B):B:=(l.map fun s=>Lib.itoa (s.length:Int)++58::s).flatten
def pO (l:List B):B:=H7 (jJ l)
def A2:Eng.Spec where
 X:=List B
 args:=fun l=>.cons (slE l) .nil
 pre:=fun l=>l.length<=1000000/\(jJ l).length<=140737488355328
 res:=fun l=>.str (pO l)
 inst:=fun _=>none
def Rk:bU:=A2.mof B (fun x y=>y=pO x) (fun _ y=>.str y)
theorem Gz (h:A2.Ok Tryz.prog 35):Rk.Ok Tryz.prog 35:=Eng.Spec.pR h fun _ _=>⟨_,rfl,rfl⟩
def fP (n:ND):List B:=[116,114,105,101]::Lib.itoa (n.ids.length:Int)::n.ids
def lU (n:ND):Nat->List B
 | 0=>[]
 | j+1=>lU n j++[(n.bys.drop j).take 1,n.kids.getD j []]
def pI (n:ND):B:=if n.bys.length=n.kids.length then pO (fP n++lU n n.kids.length) else []
def g19:List Nat:=[0,12,23,25,22,1,4,5,24,3,2]
def c19:bH :=
 .seq (.region g19 [(zo 1 (.box 39 (.s 0))),(zo 2 (.move (.c (.str []))))]) (.seq (.seq (.region g19 [(fa 6 1 1),(ld 7 6),(zo 8 (.lenStr (.s 7))),(fa 9 2 1),(ld 10 9),(zo 11 (.lenSl (.s 10))),(zo 12 (.bin (.neq) (.s 8) (.s 11)))]) (.cond (.s 12) (.seq (.region g19 [(zo 2 (.move (.c (.str []))))]) .ret) .skip)) (.seq (.drawn g19 (.pure 0 (fa 13 0 1) (.pure 1 (ld 14 13) (.pure 2 (zo 15 (.lenSl (.s 14))) (.pure 3 (zo 16 (.call (.c (.fn 52)) [.s 15])) (.pure 5 (fa 18 0 1) (.pure 6 (ld 19 18) (.eff 4 (zo 17 (.buildSl 9 1 2 (.cons (.str []) .nil) [(0,1,.c (.str [116,114,105,101])),(1,1,.s 16)])) [(ld 19 18)] (.eff 7 (zo 20 (.app 9 1 16 (.s 17) (.s 19))) [] (.pure 8 (mv 3 20) .done) .none) .none)))))))) (.seq (.seq (.region g19 [(fa 21 2 1),(ld 22 21),(zo 23 (.lenSl (.s 22))),(zo 24 (.move (cj 0)))]) (.block 0 (.loop 0 [25,26,27,28,4,5,29,30,31,32,33,34,35,36,37,38,3,39,24] (.seq (.region g19 [(zo 25 (.bin (.lss) (.s 24) (.s 23)))]) (.seq (.cond (.s 25) .skip (.exit 0)) (.seq (.block 1 (.seq (.region g19 [(mv 26 24),(zo 27 (.idxSl 1 (.s 22) (.s 24))),(ld 28 27),(mv 4 26),(mv 5 28)]) (.region g19 [(mv 29 3),(fa 30 1 1),(ld 31 30),(mv 32 4),(mv 33 4),(zo 34 (.bin (.add) (.s 33) (cj 1))),(zo 35 (.sliceStr (.s 31) (some (.s 32)) (some (.s 34)))),(mv 36 5),(zo 37 (.buildSl 9 1 2 (.cons (.str []) .nil) [(0,1,.s 35),(1,1,.s 36)])),(zo 38 (.app 9 1 16 (.s 29) (.s 37))),(mv 3 38)]))) (.region g19 [(zo 39 (.bin (.add) (.s 24) (cj 1))),(mv 24 39)]))))))) (.seq (.region g19 [(mv 40 3),(zo 41 (.call (.c (.fn 35)) [.s 40])),(mv 2 41)]) .ret))))
theorem e19:cR Tryz.prog 19 g19 [] [17] []=some (c19,[.slot 2],42):=by kernel_rfl
def Xz:Eng.Spec where
 X:=ND
 args:=fun n=>.cons (.agg (ndL n)) .nil
 pre:=fun n=>(n.ids.length<=100000/\n.kids.length<=100000)/\(jJ (fP n++lU n n.kids.length)).length<=140737488355328
 res:=fun n=>.str (pI n)
 inst:=fun _=>none
theorem Q0 (n:ND):(fP n++lU n 0).length=2+n.ids.length:=by simp [fP,lU]; omega
theorem Iu {α:Type} (a b:Nat) (x y:α):(bif Nat.blt a b then x else y)=if a < b then x else y:=by
 by_cases h:a < b
 ·rw [show Nat.blt a b=true by rw [lC]; exact h,if_pos h]; rfl
 ·have:Nat.blt a b=false:=by
   cases hb:Nat.blt a b with
   | false=>rfl
   | true=>rw [lC] at hb; exact absurd hb h
  rw [this,if_neg h]; rfl
theorem Yi {k:Keep} {hp:List (Nat×aT)} (n:ND) {m:Nat}:∀ i,i < m->oP k (sub k hp 200) (kO 2 (nV (.cons (.cons (.str [116,114,105,101]) .nil) (.cons (.cons (.str (Lib.itoa (n.ids.length:Int))) .nil) .nil))) (fun i=>idE (n.ids.getD i [])) i) (idE ((fP n++lU n 0).getD i [])):=by
 intro i _;have e:kO 2 (nV (.cons (.cons (.str [116,114,105,101]) .nil) (.cons (.cons (.str (Lib.itoa (n.ids.length:Int))) .nil) .nil))) (fun i=>idE (n.ids.getD i [])) i=idE ((fP n++lU n 0).getD i []):=by
  unfold kO fP lU;rw [Iu,fX]
  match i with
  | 0=>rfl
  | 1=>rfl
  | i+2 =>
   rw [if_neg (by omega),jG];rfl
 rw [e];exact Or.inl (fB _ _ _ _)
theorem Gs (n:ND):∀ j,(lU n j).length=2 * j
 | 0=>rfl
 | j+1=>by rw [lU,aV,Gs n j]; simp only [aY,dA]; omega
theorem vW (n:ND) (j:Nat):(fP n++lU n j).length=2+n.ids.length+2 * j:=by
 rw [aV,Gs];simp only [fP,aY];omega
theorem Yt {k:Keep} {hp:List (Nat×aT)} {n:ND} {j:Nat} {x y:B} {m:Nat} (hx:x=(n.bys.drop j).take 1) (hy:y=n.kids.getD j []) (hm:m=(fP n++lU n j).length+2):∀ i,i < m->oP k (sub k hp 200) (kO (fP n++lU n j).length (fun q=>idE ((fP n++lU n j).getD q [])) (fun q=>nV (.cons (.cons (.str x) .nil) (.cons (.cons (.str y) .nil) .nil)) (0+q)) i) (idE ((fP n++lU n (j+1)).getD i [])):=by
 intro i hi;subst hx hy hm;rw [lU,<- cP];generalize fP n++lU n j=L at *
 have e:kO L.length (fun j=>idE (L.getD j [])) (fun q=>nV (.cons (.cons (.str ((n.bys.drop j).take 1)) .nil) (.cons (.cons (.str (n.kids.getD j [])) .nil) .nil)) (0+q)) i=idE ((L++[(n.bys.drop j).take 1,n.kids.getD j []]).getD i []):=by
  unfold kO;rw [Iu];by_cases h:i < L.length
  ·rw [if_pos h];show idE (L.getD i [])=_;rw [aE,aE,aU h]
  ·rw [if_neg h];have e2:(L++[(n.bys.drop j).take 1,n.kids.getD j []]).getD i []=[(n.bys.drop j).take 1,n.kids.getD j []].getD (i - L.length) []:=by
    rw [aE,bG (by omega),<- aE]
   rw [e2];show nV _ (0+(i - L.length))=_;rw [aW];have hc:i - L.length=0\/i - L.length=1:=by omega
   rcases hc with hc|hc <;> rw [hc] <;> rfl
 rw [e];exact Or.inl (fB _ _ _ _)
theorem Vt {P:Nat->Prop} (h0:P 0) (h1:P 1):∀ j,j < 2->P j:=by
 intro j hj;have hc:j=0\/j=1:=by omega
 rcases hc with rfl|rfl
 ·exact h0
 ·exact h1
theorem I2 (hl:A2.Ok Tryz.prog 35):Xz.Ok Tryz.prog 19:=by
 refine Eng.Spec.okR e19 .nil (fun _=>[(52,.p Gn),(35,.m Rk),(2097152,.own)]) (fun _ _=>aZ.p D5.itoa (aZ.m (Gz hl) (aZ.o aZ.nil))) ?_;rintro ⟨ids,bys,kids⟩ ⟨⟨(h1:ids.length<=100000),(h2:kids.length<=100000)⟩,(h3:(jJ (fP ⟨ids,bys,kids⟩++lU ⟨ids,bys,kids⟩ kids.length)).length<=140737488355328)⟩;refine ⟨trivial,?_⟩;repeat' (first|refine aA ?_ ?_)
 ·refine fun (h:(!decide ((bys.length:Int)=(kids.length:Int)))=true)=>?_;have hne:¬ bys.length=kids.length:=by
   intro e;rw [e] at h;simp at h
  have e:[]=pI ⟨ids,bys,kids⟩:=(if_neg hne).symm;repeat' (first|exact e)
 ·refine fun (h:(!decide ((bys.length:Int)=(kids.length:Int)))=false)=>?_;have he:bys.length=kids.length:=by
   have:decide ((bys.length:Int)=(kids.length:Int))=true:=by revert h; cases decide ((bys.length:Int)=(kids.length:Int)) <;> simp
   have:=of_decide_eq_true this;omega
  repeat' (first|apply aA|exact trivial|exact rfl)
  ·show (-9223372036854775808:Int)<=(ids.length:Int);omega
  ·show (ids.length:Int)<=9223372036854775807;omega
  ·exact fun _ _=>rfl
  ·show 2+ids.length<=9223372036854775807;omega
  ·show (2+ids.length) * 16<=140737488355328;omega
  refine ⟨⟨Nat,fun j=>j<=kids.length,fun j=>[(24,.int .i64 (j:Int)),(3,.lsl 30 1 (fP ⟨ids,bys,kids⟩++lU ⟨ids,bys,kids⟩ j).length)],fun j=>[lsH 30 (fP ⟨ids,bys,kids⟩++lU ⟨ids,bys,kids⟩ j)],fun j=>kids.length - j⟩,0,bB _,?_,?_⟩
  ·repeat' (first|apply aA|exact trivial|exact rfl|exact fun (j:Nat) (hj:j < _)=>Or.inl (fB _ _ _ _)|fail)
   ·exact (Q0 ⟨ids,bys,kids⟩).symm
   ·exact (Q0 ⟨ids,bys,kids⟩).symm
   ·exact Yi ⟨ids,bys,kids⟩
  rintro (j:Nat) (kj:j<=kids.length);repeat' (first|refine aA ?_ ?_)
  ·refine fun (hlt:decide ((j:Int) < (kids.length:Int))=true)=>?_;replace hlt:j < kids.length:=by have:=of_decide_eq_true hlt; omega
   have g0:(0:Int)<=(j:Int):=by omega
   have g1:(j:Int) < (kids.length:Int):=by omega
   have g2:-9223372036854775808<=(j:Int)+1:=by omega
   have g3:(j:Int)+1<=9223372036854775807:=by omega
   have g4:(j:Int)<=(j:Int)+1:=by omega
   have g5:(j:Int)+1<=(bys.length:Int):=by omega
   have hal:=vW ⟨ids,bys,kids⟩ j;have hal2:=vW ⟨ids,bys,kids⟩ (j+1);replace hal:(fP ⟨ids,bys,kids⟩++lU ⟨ids,bys,kids⟩ j).length=2+ids.length+2 * j:=hal;replace hal2:(fP ⟨ids,bys,kids⟩++lU ⟨ids,bys,kids⟩ (j+1)).length=2+ids.length+2 * (j+1):=hal2;have g6:(fP ⟨ids,bys,kids⟩++lU ⟨ids,bys,kids⟩ j).length+2<=9223372036854775807:=by omega
   have g7:((fP ⟨ids,bys,kids⟩++lU ⟨ids,bys,kids⟩ j).length+2) * 16<=140737488355328:=by omega
   have g8:kids.length - (j+1) < kids.length - j:=by omega
   have g9:(fP ⟨ids,bys,kids⟩++lU ⟨ids,bys,kids⟩ j).length+2=(fP ⟨ids,bys,kids⟩++lU ⟨ids,bys,kids⟩ (j+1)).length:=by omega
   have hx:(bys.drop (j:Int).toNat).take (((j:Int)+1).toNat - (j:Int).toNat)=(bys.drop j).take 1:=by
    rw [eX,show ((j:Int)+1).toNat=j+1 by omega,Nat.add_sub_cancel_left]
   repeat' (first|apply aA|exact rfl|(with_reducible first|exact g0|exact g1|exact g2|exact g3))
   ·exact g4
   ·exact g5
   ·exact aL 2
   ·exact Vt rfl rfl
   ·exact g6
   ·exact g7
   refine aB (j+1) (aA hlt (aA ?_ g8));repeat' (first|apply aA|exact trivial|exact rfl|exact fun (j:Nat) (hj:j < _)=>Or.inl (fB _ _ _ _)|fail)
   ·exact g9
   ·exact g9
   ·exact Yt hx rfl rfl
  ·refine fun (hlt:decide ((j:Int) < (kids.length:Int))=false)=>?_;replace hlt:j=kids.length:=by have:=of_decide_eq_false hlt; omega
   subst hlt;have hal:=vW ⟨ids,bys,kids⟩ kids.length;replace hal:(fP ⟨ids,bys,kids⟩++lU ⟨ids,bys,kids⟩ kids.length).length=2+ids.length+2 * kids.length:=hal;have g1:(fP ⟨ids,bys,kids⟩++lU ⟨ids,bys,kids⟩ kids.length).length<=1000000:=by omega
   refine aB (fP ⟨ids,bys,kids⟩++lU ⟨ids,bys,kids⟩ kids.length) (aB [] ?_);repeat' (first|exact g1|exact h3|apply aA|exact trivial|exact rfl|exact fU (aW _)|exact (fun (j:Nat) _=>by rw [aW]; exact Or.inl (fB _ _ _ _))|fail)
   refine fun (y:B) (hy:y=pO (fP ⟨ids,bys,kids⟩++lU ⟨ids,bys,kids⟩ kids.length))=>?_;have he2:y=pI ⟨ids,bys,kids⟩:=by rw [hy]; exact (if_pos he).symm
   repeat' (first|exact he2)
end D6
end
section
namespace Go.Proofs
open Go.RowKit Go.Shelf
set_option maxRecDepth 1000000
def Tryz.Cm:Go.Shelf.Ren:=⟨fun|167=>61|n=>Tryz.mY.f n,Tryz.mY.t,Tryz.mY.g⟩
theorem Tryz.aAz:Go.Proofs.Lays.n167 Tryz.prog Tryz.Cm :=
 { Tryz.A1 with
  f167:=Tryz.func61.trans (congrArg some (by kernel_rfl)) }
theorem Tryz.Wg:Go.Proofs.Lays.n166 Tryz.prog Tryz.mY:={ Tryz.A1 with }
theorem Tryz.aAy:Go.Proofs.Lays.n169 Tryz.prog Tryz.mY:={ Tryz.A1 with }
theorem Tryz.aB0:Builder.Extra Tryz.prog Tryz.Cm:={ Tryz.bx with }
end Go.Proofs
namespace D7
open Go Go.Eng Go.Proofs Go.RowKit Go.Shelf T1 D3 D6
def As (s:B):B:=Lib.itoa (s.length:Int)++58::s
theorem Jm (n:Nat) (hn:n<=9223372036854775807) (w:World) (hg:GV w):Calls Tryz.prog 52 #[.int .i64 (n:Int)] w fun e w'=>e=.returned (.string ⟨(Lib.itoa (n:Int)).toArray⟩)/\RowKit.Below w.heap.size w w':=by
 refine (D5.itoa.does (n:Int) w [.int .i64 (n:Int)] (fun _=>False) (fun _ h=>h.elim) hg ⟨by omega,by omega⟩ ⟨_,_,rfl,rfl,rfl⟩).mono ?_;intro e w' he;cases e with
 | returned v =>
  obtain ⟨h1,h2⟩:=he;exact ⟨by rw [aC.1 h1],h2.row⟩
 | panicked c=>exact he.elim
 | outgrown=>exact he.elim
theorem Pg (hs:S0.Ok Tryz.prog 62) (t:B) (ht:t.length < 4611686018427387904) (w:World) (hg:GV w):Calls Tryz.prog 62 #[.string ⟨t.toArray⟩] w fun e w'=>e=.returned (.string ⟨(H7 t).toArray⟩)/\RowKit.Below w.heap.size w w':=by
 refine (hs.does t w [.string ⟨t.toArray⟩] (fun _=>False) (fun _ h=>h.elim) hg ht ⟨_,_,rfl,rfl,rfl⟩).mono ?_;intro e w' he;cases e with
 | returned v =>
  obtain ⟨h1,h2⟩:=he;exact ⟨by rw [aC.1 h1],h2.row⟩
 | panicked c=>exact he.elim
 | outgrown=>exact he.elim
theorem B5 {T e:TypeId} {B b:Nat} {p:Value} {bs:List Value} {W W':World} (h:Lib.BuilderAtF T e B b p bs W) (hb:RowKit.Below W.heap.size W W'):Lib.BuilderAtF T e B b p bs W':=by
 have hlt:=h.lt;obtain ⟨hB,v,hv,hown,hne⟩:=h;exact ⟨hB,v,(hb.block b hlt).trans hv,hown.kept (row:=none) ⟨hb.os,hb.tape,hb.output,hb.size,fun k hk _=>hb.block k hk⟩ (Classical.em _),hne⟩
theorem Ob {T e:TypeId} {B b:Nat} {bs:List Value} {W W':World} (h:Lib.IsBuilderF T e B b bs W) (hb:RowKit.Below W.heap.size W W'):Lib.IsBuilderF T e B b bs W' :=
 h.elim (fun x=>.inl (B5 x hb)) (fun x=>.inr (B5 x hb))
theorem Fh {l:List B} (_hn:l.length<=1000000) (hj:(jJ l).length<=140737488355328) (i:Nat) (hi:i < l.length):(jJ (l.take i)).length+(As (l.getD i [])).length<=140737488355328:=by
 have e:jJ l=jJ (l.take i)++(As (l.getD i [])++jJ (l.drop (i+1))):=by
  have e1:l=l.take i++(l.getD i []::l.drop (i+1)):=by
   rw [aE,aH hi,bZ,<- dG hi,dQ]
  conv=>lhs; rw [e1]
  simp only [jJ,eZ,bL,List.flatten_append,jX];rfl
 rw [e,aV,aV] at hj;omega
theorem blw {B:Nat} {w w':World} (h:RowKit.Below B w w'):Eng.Below B w w':=by
 exact .rU h (DLe.no rfl)
theorem Qy {w w':World} (h:GV w) (b:RowKit.Below w.heap.size w w'):GV w':=h.below (blw b)
theorem Jn {l:List B} (i:Nat) (hi:i < l.length):jJ (l.take (i+1))=jJ (l.take i)++As (l.getD i []):=by
 rw [mA,jJ,jJ,eZ,List.flatten_append,aE,aH hi];simp [As]
set_option maxHeartbeats 1000000 in
theorem Rl (hs:S0.Ok Tryz.prog 62) (l:List B) (a:Option Addr) (cap:Nat) (w:World) (hgv:GV w) (hn:l.length<=1000000) (hj:(jJ l).length<=140737488355328)
  (hel:∀ i,i < l.length->∃ b off,a=some ⟨b,off,none⟩/\b < w.heap.size/\w.cell? ⟨b,off+i,none⟩=some (.string ⟨(l.getD i []).toArray⟩)) :
  Calls Tryz.prog 35 #[.slice a l.length cap] w fun e w'=>e=.returned (.string ⟨(pO l).toArray⟩)/\RowKit.Below w.heap.size w w':=by
 have b0:RowKit.Below w.heap.size w (w.alloc (.cells #[.pointer none,.slice none 0 0] 89)):=(RowKit.Below.refl _ w).alloc (aL _) _;have h0:Lib.IsBuilderF 89 5 w.heap.size w.heap.size [] (w.alloc (.cells #[.pointer none,.slice none 0 0] 89)):=Lib.IsBuilderF.of (Lib.fresh_isBuilder 89 5 w)
 go_enter Tryz.func35,Tryz.ntmps35
 go_wp2
 go_loopg [8] l.length (fun g s8 wx=>∃ i:Nat,s8=.int .i64 (i:Int)/\i+g=l.length/\Lib.IsBuilderF 89 5 w.heap.size w.heap.size (Lib.byteCells (jJ (l.take i))) wx/\RowKit.Below w.heap.size w wx)
 case atStart=>exact ⟨0,rfl,by omega,h0,b0⟩
 case round =>
  obtain ⟨i,rfl,hig,hB,hbx⟩:=hrel;cases gk with
  | zero =>
   obtain rfl:i=l.length:=by omega
   have hno:¬ ((l.length:Int) < (l.length:Int)):=Int.lt_irrefl _;rw [eP] at hB;have cStr:Calls Tryz.prog 63 #[.pointer (some ⟨w.heap.size,0,none⟩)] wr fun e w'=>e=.returned (.string ⟨(jJ l).toArray⟩)/\(Lib.IsBuilderF 89 5 w.heap.size w.heap.size (Lib.byteCells (jJ l)) w'/\RowKit.Below w.heap.size wr w') :=
    Any.Builder_String_any_f Tryz.aAy Tryz.bx w.heap.size w.heap.size (jJ l) wr hB hbx.size
   go_wp2_with (go_at_call 63; go_fit cStr; rintro e W1 ⟨rfl,h1,b1⟩)
   have cSum:=Pg hs (jJ l) (by omega) W1 (Qy hgv (hbx.trans b1))
   go_wp2_with (go_at_call 62; go_fit cSum; rintro e W2 ⟨rfl,b2⟩)
   go_ret
   exact ⟨rfl,hbx.trans (b1.trans (b2.mono (bC hbx.size b1.size)))⟩
  | succ g =>
   have hil:i < l.length:=by omega
   have hil':(i:Int) < (l.length:Int):=by omega
   obtain ⟨b,off,rfl,hb,hc⟩:=hel i hil;have hc2:=(hbx.cell (p:=⟨b,off+i,none⟩) hb).trans hc;obtain ⟨s,hs'⟩:∃ s,l.getD i []=s:=⟨_,rfl⟩;have hsl:=Fh hn hj i hil;rw [hs'] at hc2 hsl;obtain ⟨S,hS⟩:∃ S:ByteArray,(⟨s.toArray⟩:ByteArray)=S:=⟨_,rfl⟩;rw [hS] at hc2;have hSz:S.size=s.length:=by rw [<- hS]; rfl
   have hlen:(As s).length=(Lib.itoa (s.length:Int)).length+(s.length+1):=by rw [As,aV,aY]
   have cI:=Jm s.length (by omega) wr (Qy hgv hbx);obtain ⟨I,hI⟩:∃ I:ByteArray,(⟨(Lib.itoa (s.length:Int)).toArray⟩:ByteArray)=I:=⟨_,rfl⟩;rw [hI] at cI;have hId:I.data.toList=Lib.itoa (s.length:Int):=by rw [<- hI]
   have hIz:I.size=(Lib.itoa (s.length:Int)).length:=by rw [Lib.size_eq,hId]
   have hSd:S.data.toList=s:=by rw [<- hS]
   go_wp2_with (go_at_call 52; go_fit cI; rintro e W1 ⟨rfl,b1⟩)
   have cW:Calls Tryz.prog 60 #[.pointer (some ⟨w.heap.size,0,none⟩),.string I] W1 fun e w'=>e=.returned (.tuple #[.int .i64 I.size,.nilIface])/\(Lib.BuilderAtF 89 5 w.heap.size w.heap.size (.pointer (some ⟨w.heap.size,0,none⟩)) (Lib.byteCells (jJ (l.take i))++Lib.strCells I) w'/\RowKit.Below w.heap.size W1 w') :=
    Any.Builder_WriteString_f Tryz.Wg Tryz.bx w.heap.size w.heap.size _ I W1 (Ob hB b1) (by rw [Lib.byteCells_length,hIz]; omega) (bC hbx.size b1.size)
   go_wp2_with (go_at_call 60; go_fit cW; rintro e W2 ⟨rfl,h2,b2⟩)
   have cB:Calls Tryz.prog 61 #[.pointer (some ⟨w.heap.size,0,none⟩),.int .u8 58] W2 fun e w'=>e=.returned .nilIface/\(Lib.BuilderAtF 89 5 w.heap.size w.heap.size (.pointer (some ⟨w.heap.size,0,none⟩)) (Lib.byteCells (jJ (l.take i))++Lib.strCells I++[.int .u8 58]) w'/\RowKit.Below w.heap.size W2 w'/\Lib.OthersKept 5 (some w.heap.size) W2 w') :=
    Any.Builder_WriteByte_k Tryz.aAz Tryz.aB0 w.heap.size w.heap.size _ 58 W2 (Or.inr h2) (by rw [aV,Lib.byteCells_length,Lib.strCells_eq,Lib.byteCells_length,<- Lib.size_eq,hIz]; omega) (bC hbx.size (bC b1.size b2.size))
   go_wp2_with (go_at_call 61; go_fit cB; rintro e W3 ⟨rfl,h3,b3,-⟩)
   have cV:Calls Tryz.prog 60 #[.pointer (some ⟨w.heap.size,0,none⟩),.string S] W3 fun e w'=>e=.returned (.tuple #[.int .i64 S.size,.nilIface])/\(Lib.BuilderAtF 89 5 w.heap.size w.heap.size (.pointer (some ⟨w.heap.size,0,none⟩)) (Lib.byteCells (jJ (l.take i))++Lib.strCells I++[.int .u8 58]++Lib.strCells S) w'/\RowKit.Below w.heap.size W3 w') :=
    Any.Builder_WriteString_f Tryz.Wg Tryz.bx w.heap.size w.heap.size _ S W3 (Or.inr h3) (by rw [aV,aV,Lib.byteCells_length,Lib.strCells_eq,Lib.byteCells_length,<- Lib.size_eq,hIz,hSz]; simp only [List.length_singleton]; omega) (bC hbx.size (bC b1.size (bC b2.size b3.size)))
   go_wp2_with (go_at_call 60; go_fit cV; rintro e W4 ⟨rfl,h4,b4⟩)
   go_roundg g
   case measure=>omega
   case rel =>
    refine ⟨i+1,rfl,by omega,Or.inr ?_,hbx.trans ((b1.mono hbx.size).trans (b2.trans (b3.trans b4)))⟩;rw [Lib.strCells_eq,Lib.strCells_eq,hId,hSd] at h4;have e:Lib.byteCells (jJ (l.take (i+1)))=Lib.byteCells (jJ (l.take i))++Lib.byteCells (Lib.itoa (s.length:Int))++[.int .u8 58]++Lib.byteCells s:=by
     rw [Jn i hil,hs',As,Lib.byteCells_append,Lib.byteCells_append];simp [Lib.byteCells]
    rw [e];exact h4
theorem zR (hs:S0.Ok Tryz.prog 62):A2.Ok Tryz.prog 35:=by
 refine uV (enters_of Tryz.func35 (by kernel_rfl) rfl) ?_;rintro l w vs U hg ⟨(h1:l.length<=1000000),(h2:(jJ l).length<=140737488355328)⟩ hR;simp only [A2,T3.slE,R] at hR;obtain ⟨v1,r1,rfl,⟨a,cap,e1,-,hel⟩,rfl⟩:=hR;obtain rfl:=aC.1 e1;refine ⟨_,(Rl hs l a cap w hg h1 h2 fun i hi=>?_).mono fun e w' h=>⟨h.1,blw h.2⟩,fun E=>by simp only [A2,R]⟩;obtain ⟨b,off,cs,ha,h3,h4,h5⟩:=hel i hi;simp only [T1.idE,R] at h4;obtain ⟨x,xs,rfl,e2,rfl⟩:=h4;obtain rfl:=aC.1 e2;have hc:=h5.2 0 _ rfl;rw [Nat.mul_one,iK] at hc;refine ⟨b,off,ha,?_,hc⟩;exact World.block_lt_of_cell? w _ hc
end D7
end
