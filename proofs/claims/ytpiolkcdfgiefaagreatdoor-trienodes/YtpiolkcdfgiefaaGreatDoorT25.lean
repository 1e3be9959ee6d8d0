/- A part of the proof. -/
import Derived.Test.YtpiolkcdfgiefaaGreatDoorT17
section
open Go Go.Eng Go.Proofs T1 T2 T3 T4 T5 T6 T7 T8 T9 T10 T11 T12 T13 T14 T15 T16 T17
set_option maxRecDepth 100000
namespace T18
theorem Me {l:List B} {i j:B}:j∈kC l l.length (bK l i) i ↔ j=i\/j∈l:=by
 rw [zF,List.mem_append,List.mem_cons]
 have:j∈l ↔ j∈l.take (bK l i)\/j∈l.drop (bK l i):=by
  rw [<- List.mem_append,List.take_append_drop]
 rw [this]
 constructor
 ·rintro (h|h|h)
  ·exact .inr (.inl h)
  ·exact .inl h
  ·exact .inr (.inr h)
 ·rintro (h|h|h)
  ·exact .inr (.inl h)
  ·exact .inl h
  ·exact .inr (.inr h)
theorem Jm {l:List B} (h:Srt l):l.Nodup:=by
 refine List.Pairwise.imp ?_ h
 intro a b hab e
 subst e
 rw [Dj] at hab
 cases hab
theorem Mf {l:List B} (h:Srt l) {i j:B} (hi:i∈l):j∈vK l i ↔ j∈l/\j≠i:=by
 obtain ⟨h1,h2⟩:=(tV h i).1 hi
 have e:l=l.take (bK l i)++i::l.drop (bK l i+1):=by
  have:i=l[bK l i]:=by
   have h3:=h2
   rw [List.getD_eq_getElem?_getD,List.getElem?_eq_getElem h1] at h3
   exact h3.symm
  conv=>lhs; rw [<- List.take_append_drop (bK l i) l,List.drop_eq_getElem_cons h1,<- this]
 have hn:=Jm h
 rw [e,List.nodup_append] at hn
 obtain ⟨_,n2,n3⟩:=hn
 have n4:=(List.nodup_cons.1 n2).1
 unfold vK
 rw [List.mem_append]
 have hm:j∈l ↔ j∈l.take (bK l i)\/j=i\/j∈l.drop (bK l i+1):=by
  conv=>lhs; rw [e]
  rw [List.mem_append,List.mem_cons]
 rw [hm]
 constructor
 ·rintro (h|h)
  ·exact ⟨.inl h,n3 _ h _ List.mem_cons_self⟩
  ·exact ⟨.inr (.inr h),fun e=>n4 (e ▸ h)⟩
 ·rintro ⟨h|h|h,hne⟩
  ·exact .inl h
  ·exact absurd h hne
  ·exact .inr h
theorem fP {ids:List B} {k:TK} {i:B}:eB [] i (.node ids k) ↔ i∈ids :=
 ⟨fun ⟨s,e,h⟩=>by cases e; exact h,fun h=>⟨_,rfl,h⟩⟩
theorem cD {ids:List B} {k:TK} {b:UInt8} {t i:B}:eB (b::t) i (.node ids k) ↔ ∃ s,cC k b=some s/\eB t i s :=
 ⟨mem_cons,fun ⟨s,hg,s',e,h⟩=>⟨s',by simp only [cL,hg,Option.bind_some]; exact e,h⟩⟩
theorem zP {t i:B}:¬ eB t i emp:=by
 rintro ⟨s,e,h⟩
 cases t with
 | nil=>cases e; cases h
 | cons b t=>cases e
theorem zQ {i:B}:∀ (t:B) {T:TT},wfT T->∀ {t' i':B},eB t' i' (fX i t T) ↔ (t'=t/\i'=i)\/eB t' i' T
 | [],.node ids k,w,[],i'=>by
  simp only [fX]
  rw [fP,fP,Me]
  simp
 | [],.node ids k,w,b'::t',i'=>by
  simp only [fX]
  rw [cD,cD]
  simp
 | b::t,.node ids k,w,[],i'=>by
  simp only [fX]
  rw [fP,fP]
  simp
 | b::t,.node ids k,w,b'::t',i'=>by
  simp only [wfT] at w
  simp only [fX]
  rw [cD,cD]
  simp only [zB w.2.1]
  have hw:wfT ((cC k b).getD emp):=by
   cases hg:cC k b with
   | none=>exact sM
   | some s=>exact (iA hg w.2.2).1
  by_cases e:b'=b
  ·subst e
   simp only [if_true,Option.some.injEq,exists_eq_left']
   rw [zQ t hw]
   cases hg:cC k b' with
   | none =>
    simp only [Option.getD_none,List.cons.injEq,true_and,reduceCtorEq,false_and,exists_false,or_false]
    exact ⟨fun h=>h.resolve_right zP,.inl⟩
   | some s=>simp
  ·rw [if_neg e]
   simp [e]
theorem zO {i:B}:∀ (t:B) {T:TT},wfT T->eB t i T->∀ {t' i':B},eB t' i' (jL i t T) ↔ eB t' i' T/\¬ (t'=t/\i'=i)
 | [],.node ids k,w,hm,[],i'=>by
  simp only [wfT] at w
  simp only [jL]
  rw [fP,fP,Mf w.1 (fP.1 hm)]
  simp
 | [],.node ids k,w,hm,b'::t',i'=>by
  simp only [jL]
  rw [cD,cD]
  simp
 | b::t,.node ids k,w,hm,t',i'=>by
  simp only [wfT] at w
  obtain ⟨s,hg,hms⟩:=mem_cons hm
  have hs:=iA hg w.2.2
  have ih:=@zO i t s hs.1 hms
  simp only [jL,hg]
  split
  ·rename_i h1
   cases t' with
   | nil=>rw [fP,fP]; simp
   | cons b' t' =>
    rw [cD,cD]
    simp only [Gz w.2.1]
    by_cases e:b'=b
    ·subst e
     simp only [if_true,reduceCtorEq,false_and,exists_false,false_iff,hg,Option.some.injEq,exists_eq_left',List.cons.injEq,true_and]
     rintro ⟨h',hne⟩
     have h2:=ih.2 ⟨h',hne⟩
     have h3:=sL t hs.1 hms
     obtain ⟨s',e',h4⟩:=h2
     have h5:=vO _ e'
     have:=List.length_pos_of_mem h4
     omega
    ·rw [if_neg e]; simp [e]
  ·cases t' with
   | nil=>rw [fP,fP]; simp
   | cons b' t' =>
    rw [cD,cD]
    simp only [zB w.2.1]
    by_cases e:b'=b
    ·subst e
     simp only [if_true,Option.some.injEq,exists_eq_left',hg,List.cons.injEq,true_and]
     exact ih
    ·rw [if_neg e]; simp [e]
structure Tr (D:Dg) (T:TT) (N:Nat->NO) (c r:Nat) (K:Int):Prop where
 rep:∃ F,dG D N T r F/\∀ z,F z->z < c
 ok:T8.Ok ⟨N,c,r⟩ K
 wf:wfT T
 val:∀ t i,eB t i T->jD t i=true
 sz:szT T<=20000
theorem tY {t i:B} (h:jD t i=true):t.length<=120:=by
 unfold jD at h
 simp only [Bool.and_eq_true,decide_eq_true_eq] at h
 exact h.2.1
theorem Tr.ids {D:Dg} {T:TT} {N:Nat->NO} {c r:Nat} {K:Int} (h:Tr D T N c r K) (t:B):∀ v,atN N r t=some v->(iY N v).length<=1000000:=by
 intro v hv
 obtain ⟨F,hF,_⟩:=h.rep
 obtain ⟨h1,h2⟩:=yD t hF h.wf
 cases hs:cL t T with
 | none=>rw [h2 hs] at hv; cases hv
 | some s =>
  obtain ⟨v',G,e,hr⟩:=h1 s hs
  rw [e] at hv
  cases hv
  rw [(tQ hr).1]
  have:=vO t hs
  have:=h.sz
  omega
theorem Tr.has {D:Dg} {T:TT} {N:Nat->NO} {c r:Nat} {K:Int} (h:Tr D T N c r K) {p:Bool} {t i:B}:HX.has ⟨p,N,c,r,t,i⟩=true ↔ eB t i T:=by
 obtain ⟨F,hF,_⟩:=h.rep
 exact O5 hF h.wf
theorem Tr.Ks {D:Dg} {T:TT} {N:Nat->NO} {c r:Nat} {K:Int} (h:Tr D T N c r K) (hK:K<=1000000000000) {t i:B} (ht:t.length < 4611686018427387904):Kr.pre ⟨false,N,c,r,t,i⟩:=by
 refine ⟨rfl,h.ok.cl,h.ok.nd,ht,h.ids t,fun hh=>?_⟩
 have hm:=h.has.1 hh
 obtain ⟨F,hF,_⟩:=h.rep
 obtain ⟨F',p⟩:=qE (D:=D) (c:=c) t hF h.wf hm
 have hl:=tY (h.val _ _ hm)
 obtain ⟨s,hs,hi⟩:=hm
 have e:iY (HX.mk false N c r t i).fin.N (HX.mk false N c r t i).fin.x=tI s:=by
  show iY (chN false ⟨N,c,r⟩ t).N (chN false ⟨N,c,r⟩ t).x=_
  rw [p.ids,hs]; rfl
 refine ⟨⟨h.ok.cl,h.ok.nd,?_⟩,by show t.length<=1000; omega,?_,?_,fun _=>?_⟩
 ·intro j a n m sz mk hj
  have:=h.ok.bd _ _ _ _ _ _ hj
  omega
 ·rw [e]
  obtain ⟨ids,k⟩:=s
  have:=F6 t h.wf hs
  simp only [wfT] at this
  exact this.1
 ·rw [e]
  have:=vO t hs
  have:=h.sz
  omega
 ·rw [e]; exact hi
theorem Tr.drop {D:Dg} {T:TT} {N:Nat->NO} {c r:Nat} {K:Int} (h:Tr D T N c r K) (hK:0<=K) {t i:B} (hm:eB t i T):Tr D (jL i t T) (T12.iE ⟨false,N,c,r,t,i⟩) c r (K+1000):=by
 have e:T12.iE ⟨false,N,c,r,t,i⟩=dQ false (chN false ⟨N,c,r⟩ t).N (chN false ⟨N,c,r⟩ t).x 0 i:=by
  unfold T12.iE
  rw [h.has.2 hm]
  rfl
 obtain ⟨F,hF,hFc⟩:=h.rep
 obtain ⟨F',p⟩:=qE (D:=D) (c:=c) t hF h.wf hm
 have hl:=tY (h.val _ _ hm)
 have hz:=sL t h.wf hm
 have hch:=Kj (p:=false) t h.ok hK
 have hi:i∈iY (chN false ⟨N,c,r⟩ t).N (chN false ⟨N,c,r⟩ t).x:=by
  rw [p.ids]
  obtain ⟨s,hs,hi⟩:=hm
  rw [hs]; exact hi
 have h2:=Ku hch hi r (zU (p:=false) t h.ok hK h.ok.nd)
 rw [p.c] at h2
 rw [e]
 refine ⟨⟨F',p.rep,fun z hz=>hFc z (p.new z hz)⟩,⟨h2.cl,h2.nd,?_⟩,Nu t h.wf hm,fun t' i' h'=>h.val t' i' ((zO t h.wf hm).1 h').1,by have:=h.sz; omega⟩
 intro j a n m sz mk hj
 have:=h2.bd _ _ _ _ _ _ hj
 omega
theorem Tr.Hh {D:Dg} {T:TT} {N:Nat->NO} {c r:Nat} {K:Int} (h:Tr D T N c r K) (hK:K<=1000000000000) {t i:B} (ht:t.length < 4611686018427387904):P0.pre ⟨true,N,c,r,t,i⟩:=by
 refine ⟨rfl,h.ok.cl,h.ok.nd,ht,h.ids t,fun hh=>?_⟩
 obtain ⟨F,hF,hFc⟩:=h.rep
 obtain ⟨e,_⟩:=tW (D:=D) (i:=i) t hF hFc h.ok.cl.free h.wf
 have hl:t.length<=120:=by
  unfold HX.puts at hh
  exact tY (Bool.and_eq_true _ _ ▸ hh:jD t i=true/\_).1
 have e':iY (HX.mk true N c r t i).fin.N (HX.mk true N c r t i).fin.x=tI ((cL t T).getD emp):=e
 have hs:Srt (tI ((cL t T).getD emp))/\(tI ((cL t T).getD emp)).length < 1000000:=by
  cases hs:cL t T with
  | none=>exact ⟨.nil,by decide⟩
  | some s =>
   obtain ⟨ids,k⟩:=s
   have h1:=F6 t h.wf hs
   simp only [wfT] at h1
   have h2:=vO t hs
   have h3:=h.sz
   exact ⟨h1.1,by show (tI (.node ids k)).length < _; omega⟩
 refine ⟨⟨h.ok.cl,h.ok.nd,?_⟩,by show t.length<=1000; omega,by rw [e']; exact hs.1,by rw [e']; exact hs.2,fun h0=>(by cases h0)⟩
 intro j a n m sz mk hj
 have:=h.ok.bd _ _ _ _ _ _ hj
 omega
def putc (x:HX):Nat:=bif HX.puts x then x.fin.c+1 else x.c
theorem Tr.puts {D:Dg} {T:TT} {N:Nat->NO} {c r:Nat} {K:Int} (h:Tr D T N c r K) {t i:B}:HX.puts ⟨true,N,c,r,t,i⟩=true ↔ jD t i=true/\¬ eB t i T/\szT T < 20000:=by
 obtain ⟨F,hF,_⟩:=h.rep
 unfold HX.puts
 rw [Bool.and_eq_true,Bool.and_eq_true,Bool.not_eq_true',Bool.not_eq_true',<- Bool.not_eq_true,h.has,decide_eq_false_iff_not]
 show _/\_/\¬ (20000<=szN N r) ↔ _
 rw [(tQ hF).2]
 have:(¬ (20000:Int)<=((szT T:Nat):Int)) ↔ szT T < 20000:=by omega
 rw [this]
theorem Tr.put {D:Dg} {T:TT} {N:Nat->NO} {c r:Nat} {K:Int} (h:Tr D T N c r K) (hK:0<=K) {t i:B} (hp:HX.puts ⟨true,N,c,r,t,i⟩=true) {y:Nat} (hy:chS.post ⟨true,N,c,r,t,i⟩ y) :
  Tr D (fX i t T) (nL ⟨true,N,c,r,t,i⟩ y) (putc ⟨true,N,c,r,t,i⟩) r (K+1000):=by
 have e:nL ⟨true,N,c,r,t,i⟩ y=dQ true (chN true ⟨N,c,r⟩ t).N (chN true ⟨N,c,r⟩ t).x y i:=by
  unfold nL
  rw [hp]
  rfl
 have ec:putc ⟨true,N,c,r,t,i⟩=(chN true ⟨N,c,r⟩ t).c+1:=by
  unfold putc
  rw [hp]
  rfl
 have hy':(y=zN (chN true ⟨N,c,r⟩ t).N (chN true ⟨N,c,r⟩ t).x/\cE (chN true ⟨N,c,r⟩ t).N y≠[])\/y=(chN true ⟨N,c,r⟩ t).c:=hy rfl
 obtain ⟨hv,hm,hz⟩:=h.puts.1 hp
 obtain ⟨F,hF,hFc⟩:=h.rep
 obtain ⟨_,h2⟩:=tW (D:=D) (i:=i) t hF hFc h.ok.cl.free h.wf
 obtain ⟨F',p⟩:=h2 y hy'
 have hl:=tY hv
 have hsz:=nS (i:=i) t h.wf
 have hch:=Kj (p:=true) t h.ok hK
 have h3:=Ou hch (i:=i) hy' r (zU (p:=true) t h.ok hK h.ok.nd)
 rw [e,ec]
 refine ⟨⟨F',p.rep,fun z hz=>?_⟩,⟨h3.cl,h3.nd,?_⟩,Nv t h.wf hm,fun t' i' h'=>?_,by omega⟩
 ·have:=p.le
  rcases p.new z hz with h1|h1
  ·have:=hFc z h1; omega
  ·exact h1.2
 ·intro j a n m sz mk hj
  have:=h3.bd _ _ _ _ _ _ hj
  omega
 ·rcases (zQ t h.wf).1 h' with ⟨rfl,rfl⟩|h'
  ·exact hv
  ·exact h.val t' i' h'
end T18
end
section
open Go Go.Eng Go.Proofs T1 T2 T3 T4 T5 T6 T7 T8 T9 T10 T11 T12 T13 T14 T15 T16 T17 T18
set_option maxRecDepth 100000
namespace T19
def N0:Nat->NO:=fun _=>.none
theorem cl0:Cl N0 0:=⟨fun _ _=>rfl,fun _ _ _ _ _ _ h=>(by cases h),fun _ _ _ h=>(by cases h),fun _ _ _ _ _ _ h=>(by cases h),fun _ _ _ _ _ _ h=>(by cases h),fun _ _ _ _ _ _ _ _ _ _ _ h=>(by cases h),fun _ _ _ h=>(by cases h)⟩
theorem tr0 (D:Dg):Tr D emp (eV N0 0) 3 1 0:=by
 have hc:=Cl.open cl0
 have e1:eV N0 0 1=.node 2 0 0 0 []:=qV
 refine ⟨⟨fun z=>z=1\/z=0\/z=2\/False,?_,?_⟩,⟨hc,⟨_,_,_,_,_,e1⟩,?_⟩,sM,fun t i h=>absurd h zP,by decide⟩
 ·simp only [emp,dG]
  refine ⟨2,0,[],[],0,fun _=>False,e1,.inl ⟨rfl,trivial⟩,rfl,.inl rfl,.refl _,?_,by omega,by omega,id,id,id,fun _=>Iff.rfl⟩
  simp only [fC]
  exact fun _ h=>h
 ·rintro z (h|h|h|h) <;> first|omega|exact h.elim
 ·intro i a n m sz mk h
  have h':eV N0 0 i=.node a n m sz mk:=h
  unfold eV at h'
  rcases bO h' with ⟨_,k⟩|⟨_,k⟩
  ·cases k; decide
  ·rcases bO k with ⟨_,k⟩|⟨_,k⟩ <;> cases k
def tG (T:TT) (t i:B):Bool :=
 match cL t T with
 | some s=>decide (i∈tI s)
 | none=>false
theorem gN {T:TT} {t i:B}:tG T t i=true ↔ eB t i T:=by
 unfold tG eB
 cases cL t T with
 | none=>simp
 | some s=>simp
def pcT (T:TT) (k:Ky):Int:=bif jD k.1 k.2 then (bif tG T k.1 k.2 then 8 else bif decide (20000<=szT T) then 22 else 0) else 1
def E9:List Ky->TT->Int×TT
 | [],T=>(0,T)
 | k::l,T=>if pcT T k=0 then E9 l (fX k.2 k.1 T) else (pcT T k,T)
def eZ (l:List Ky):Int×TT:=if 20000 < l.length then (2,emp) else if l.any lC=true then (1,emp) else E9 l emp
theorem _root_.T18.Tr.code {D:Dg} {T:TT} {N:Nat->NO} {c r:Nat} {K:Int} (h:Tr D T N c r K) {t i:B}:lI ⟨true,N,c,r,t,i⟩=pcT T (t,i):=by
 have e1:HX.has ⟨true,N,c,r,t,i⟩=tG T t i:=by rw [Bool.eq_iff_iff,h.has,gN]
 have e2:szN N r=(szT T:Nat):=by obtain ⟨F,hF,_⟩:=h.rep; exact (tQ hF).2
 unfold lI pcT
 rw [e1]
 show (bif jD t i then (bif tG T t i then 8 else bif decide (20000<=szN N r) then 22 else 0) else 1)=_
 rw [e2]
 have:decide ((20000:Int)<=((szT T:Nat):Int))=decide (20000<=szT T):=by rw [decide_eq_decide]; omega
 rw [this]
theorem _root_.T18.Tr.puts0 {D:Dg} {T:TT} {N:Nat->NO} {c r:Nat} {K:Int} (h:Tr D T N c r K) {t i:B}:HX.puts ⟨true,N,c,r,t,i⟩=decide (pcT T (t,i)=0):=by
 rw [Bool.eq_iff_iff,h.puts,decide_eq_true_iff,<- gN]
 unfold pcT
 cases h1:jD t i <;> cases h2:tG T t i <;> cases h3:decide (20000<=szT T) <;> simp_all <;> omega
end T19
end
section
open Go Go.Eng Go.Proofs T1 T2 T3 T4 T5 T6 T7 T8 T9 T10 T11 T12 T13 T14 T15 T16 T17 T18 T19
set_option maxRecDepth 100000
namespace T20
structure NY where
 e:Int
 o:Bool
 N:Nat->NO
 c:Nat
 r:Nat
 K:Int
def nyE (y:NY):SV:=bif y.o then .own 0 0 else .val (.pointer none)
def nyH (y:NY):List (Nat×aC):=bif y.o then tH 0 1 y.r y.N else []
def g11:List Nat:=[10,12,0,17,19,16,6,26,7,18,4,2,3]
def c11:aF :=
 .seq (.region g11 [(zo 2 (.move (.c (.nilptr)))),(zo 3 (.move (cj 0)))]) (.seq (.seq (.region g11 [(mv 8 0),(zo 9 (.lenSl (.s 8))),(zo 10 (.bin (.gtr) (.s 9) (cj 20000)))]) (.cond (.s 10) (.seq (.region g11 [(zo 2 (.move (.c (.nilptr)))),(zo 3 (.move (cj 2)))]) .ret) .skip)) (.seq (.seq (.region g11 [(mv 11 0),(zo 12 (.call (.c (.fn 36)) [.s 11,.c (.fn 37)]))]) (.join 0 [2,3] (.cond (.s 12) (.seq (.region g11 [(zo 2 (.move (.c (.nilptr)))),(zo 3 (.move (cj 1)))]) .ret) .skip))) (.seq (.region g11 [(zo 13 (.call (.c (.fn 39)) [])),(zo 14 (.build (.cons (.nilptr) .nil) [(0,1,.s 13)])),(zo 15 (.box 64 (.s 14))),(mv 4 15)]) (.seq (.seq (.region g11 [(mv 16 0),(zo 17 (.lenSl (.s 16))),(zo 18 (.move (cj 0)))]) (.block 0 (.loop 1 [19,20,21,6,22,23,24,7,25,26,27,2,3,28,18] (.seq (.region g11 [(zo 19 (.bin (.lss) (.s 18) (.s 17)))]) (.seq (.cond (.s 19) .skip (.exit 0)) (.seq (.block 1 (.seq (.region g11 [(zo 20 (.idxSl 2 (.s 16) (.s 18))),(zo 21 (.load 2 true (.s 20))),(zo 6 (.alloc 32 (.cons (.str []) (.cons (.str []) .nil)))),⟨none,none,.store 2 (.s 6) (.s 21),[]⟩]) (.seq (.region g11 [(mv 22 4),(zo 23 (.load 2 true (.s 6))),(zo 24 (.call (.c (.fn 15)) [.s 22,.s 23])),(mv 7 24)]) (.seq (.region g11 [(mv 25 7),(zo 26 (.bin (.neq) (.s 25) (cj 0)))]) (.cond (.s 26) (.seq (.region g11 [(mv 27 7),(zo 2 (.move (.c (.nilptr)))),(mv 3 27)]) .ret) .skip))))) (.region g11 [(zo 28 (.bin (.add) (.s 18) (cj 1))),(mv 18 28)]))))))) (.seq (.region g11 [(mv 29 4),(mv 2 29),(zo 3 (.move (cj 0)))]) .ret)))))
theorem e11:aO Tryz.prog 11 g11 [1] [] []=some (c11,[.slot 2,.slot 3],30):=by kernel_rfl
def Tt (D:Dg):aK where
 X:=List Ky
 Y:=NY
 args:=fun l=>.cons (ksE l) .nil
 pre:=fun l=>l.length < 4611686018427387904/\∀ j,j < l.length->(l.getD j k0).1.length < 4611686018427387904
 h0:=fun _=>[]
 nx0:=0
 post:=fun l y=>(y.e=(eZ l).1/\y.o=decide (y.e=0))/\(y.o=true->Tr D (eZ l).2 y.N y.c y.r y.K/\0<=y.K/\y.K<=20000000)
 res:=fun _ y=>.tup (.cons (nyE y) (.cons (.int .i64 y.e) .nil))
 h1:=fun _ y=>nyH y
 nx1:=2
theorem Mi (D:Dg):(Tt D).Ok Tryz.prog 11:=by
 refine Eng.aK.okR e11 .nil (fun _=>[(36,.m Us),(39,.m Tv),(15,.m P0)]) (fun _ _=>aD.m Ol (aD.m Mn (aD.m Mv aD.nil))) ?_
 rintro (l:List Ky) ⟨(hn:l.length < 4611686018427387904),(ht:∀ j,j < l.length->(l.getD j k0).1.length < 4611686018427387904)⟩
 refine ⟨trivial,?_⟩
 repeat' (first|apply And.intro|exact trivial|exact rfl|exact zf|exact zh|refine zt ?_|fail)
 ·refine fun (h:decide ((l.length:Int) > 20000)=true)=>?_
  have h0:20000 < l.length:=by have:=of_decide_eq_true h; omega
  have e:eZ l=(2,emp):=if_pos h0
  have p1:(NY.mk 2 false N0 0 0 0).e=(eZ l).1:=by rw [e]
  have p2:(NY.mk 2 false N0 0 0 0).o=true->Tr D (eZ l).2 (NY.mk 2 false N0 0 0 0).N (NY.mk 2 false N0 0 0 0).c (NY.mk 2 false N0 0 0 0).r (NY.mk 2 false N0 0 0 0).K/\0<=(NY.mk 2 false N0 0 0 0).K/\(NY.mk 2 false N0 0 0 0).K<=20000000:=fun h=>(by cases h)
  repeat' (first|apply And.intro|exact trivial|exact rfl|exact zf|exact zh|refine zt ?_|fail)
  refine Exists.intro (NY.mk 2 false N0 0 0 0) ?_
  repeat' (first|(with_reducible first|exact p1|exact p2)|apply And.intro|exact trivial|exact rfl|exact zf|exact zh|refine zt ?_|fail)
 ·refine fun (h:decide ((l.length:Int) > 20000)=false)=>?_
  have h0:¬ 20000 < l.length:=by have:=of_decide_eq_false h; omega
  repeat' (first|apply And.intro|exact trivial|exact rfl|exact zf|exact zh|refine zt ?_|fail)
  refine Exists.intro l (Exists.intro [] ?_)
  repeat' (first|apply And.intro|exact trivial|exact rfl|exact fun (j:Nat) (hj:j < _)=>Or.inl (aT _ _ _ _)|exact hn|exact ht|fail)
  refine fun (y:Bool) (hy:y=l.any lC)=>?_
  subst hy
  repeat' (first|apply And.intro|exact trivial|exact rfl|exact zf|exact zh|refine zt ?_|fail)
  refine Exists.intro ⟨Unit,fun _=>l.any lC=false,fun _=>[],fun _=>[(20,.fam fun _=>.gone)],fun _=>0⟩ (And.intro ?_ ?_)
  ·repeat' (first|apply And.intro|exact trivial|exact rfl|exact zf|exact zh|refine zt ?_|fail)
   ·refine fun (hb:l.any lC=true)=>?_
    have e:eZ l=(1,emp):=by unfold T19.eZ; rw [if_neg h0,if_pos hb]
    have p1:(NY.mk 1 false N0 0 0 0).e=(eZ l).1:=by rw [e]
    have p2:(NY.mk 1 false N0 0 0 0).o=true->Tr D (eZ l).2 (NY.mk 1 false N0 0 0 0).N (NY.mk 1 false N0 0 0 0).c (NY.mk 1 false N0 0 0 0).r (NY.mk 1 false N0 0 0 0).K/\0<=(NY.mk 1 false N0 0 0 0).K/\(NY.mk 1 false N0 0 0 0).K<=20000000:=fun h=>(by cases h)
    repeat' (first|apply And.intro|exact trivial|exact rfl|exact zf|exact zh|refine zt ?_|fail)
    refine Exists.intro (NY.mk 1 false N0 0 0 0) ?_
    repeat' (first|(with_reducible first|exact p1|exact p2)|apply And.intro|exact trivial|exact rfl|exact zf|exact zh|refine zt ?_|fail)
   ·refine fun (hb:l.any lC=false)=>?_
    repeat' (first|apply And.intro|exact trivial|exact rfl|exact zf|exact zh|refine zt ?_|fail)
    refine Exists.intro () ?_
    repeat' (first|with_reducible exact hb|apply And.intro|exact trivial|exact rfl|exact zf|exact zh|refine zt ?_|exact fun _=>rfl|exact fun (j:Nat) (hj:j < _)=>Or.inl (aT _ _ _ _)|fail)
  rintro ⟨⟩ (hb:l.any lC=false)
  have e:eZ l=E9 l emp:=by unfold T19.eZ; rw [if_neg h0,if_neg (by rw [hb]; simp)]
  have hc0:Cl N0 0:=cl0
  repeat' (first|apply And.intro|exact trivial|exact rfl|exact zf|exact zh|refine zt ?_|fail)
  refine Exists.intro (N0,0) (Exists.intro [20] ?_)
  repeat' (first|apply And.intro|exact trivial|exact rfl|exact zf|exact zh|refine zt ?_|exact fun _=>rfl|exact hc0|fail)
  refine fun (_:Unit) (_:True)=>?_
  repeat' (first|apply And.intro|exact trivial|exact rfl|exact zf|exact zh|refine zt ?_|fail)
  refine ⟨⟨Nat×TT×(Nat->NO)×Nat×Nat×Int,fun s=>s.1<=l.length/\E9 (l.drop s.1) s.2.1=T19.eZ l/\Tr D s.2.1 s.2.2.1 s.2.2.2.1 s.2.2.2.2.1 s.2.2.2.2.2/\0<=s.2.2.2.2.2/\s.2.2.2.2.2<=(s.1:Int) * 1000,fun s=>[(18,.int .i64 (s.1:Int)),(4,.own 40 0)],fun s=>tH 40 20 s.2.2.2.2.1 s.2.2.1,fun s=>l.length - s.1⟩,(0,emp,eV N0 0,3,1,0),?_,?_,?_⟩
  ·exact ⟨Nat.zero_le _,e.symm,tr0 D,by decide,by decide⟩
  ·repeat' (first|apply And.intro|exact trivial|exact rfl|exact zf|exact zh|refine zt ?_|exact fun (j:Nat) (hj:j < _)=>Or.inl (aT _ _ _ _)|exact fun i=>gP (by exact rfl) (by exact rfl) _|fail)
  rintro ⟨j,T,N,c,r,K⟩ ⟨(kj:j<=l.length),(k1:E9 (l.drop j) T=T19.eZ l),(k2:Tr D T N c r K),(k3:0<=K),(k4:K<=(j:Int) * 1000)⟩
  repeat' (first|apply And.intro|exact trivial|exact rfl|exact zf|exact zh|refine zt ?_|fail)
  ·refine fun (hg:decide ((j:Int) < (l.length:Int))=true)=>?_
   have hj:j < l.length:=by have:=of_decide_eq_true hg; omega
   have g0:(0:Int)<=(j:Int):=by omega
   have g1:(j:Int) < (l.length:Int):=by omega
   have g2:-9223372036854775808<=(j:Int)+1:=by omega
   have g3:(j:Int)+1<=9223372036854775807:=by omega
   have hdr:l.drop j=l.getD j k0::l.drop (j+1):=by rw [List.drop_eq_getElem_cons hj]; simp [hj]
   have hK:K<=1000000000000:=by omega
   have hpre:=k2.Hh (t:=(l.getD j k0).1) (i:=(l.getD j k0).2) hK (ht j hj)
   have hcode:=k2.code (t:=(l.getD j k0).1) (i:=(l.getD j k0).2)
   repeat' (first|apply And.intro|exact trivial|exact rfl|exact zf|exact zh|refine zt ?_|(with_reducible first|exact g0|exact g1)|fail)
   refine Exists.intro (HX.mk true N c r (l.getD j k0).1 (l.getD j k0).2) (Exists.intro [40,20] ?_)
   repeat' (first|exact hpre|apply And.intro|exact trivial|exact rfl|exact zf|exact zh|refine zt ?_|exact fun i=>jZ (by exact rfl) (N i)|fail)
   refine fun (y:Nat) (hy:HX.puts ⟨true,N,c,r,(l.getD j k0).1,(l.getD j k0).2⟩=true->chS.post ⟨true,N,c,r,(l.getD j k0).1,(l.getD j k0).2⟩ y)=>?_
   repeat' (first|apply And.intro|exact trivial|exact rfl|exact zf|exact zh|refine zt ?_|fail)
   ·refine fun (hc:(!decide (lI ⟨true,N,c,r,(l.getD j k0).1,(l.getD j k0).2⟩=0))=true)=>?_
    have hne:lI ⟨true,N,c,r,(l.getD j k0).1,(l.getD j k0).2⟩≠0:=of_decide_eq_false (T12.Pv hc)
    have k5:T19.eZ l=(lI ⟨true,N,c,r,(l.getD j k0).1,(l.getD j k0).2⟩,T):=by
     rw [<- k1,hdr,E9,hcode]
     rw [hcode] at hne
     rw [if_neg hne]
    have p1:(NY.mk (lI ⟨true,N,c,r,(l.getD j k0).1,(l.getD j k0).2⟩) false N0 0 0 0).e=(T19.eZ l).1:=by rw [k5]
    have p3:false=decide (lI ⟨true,N,c,r,(l.getD j k0).1,(l.getD j k0).2⟩=0):=(decide_eq_false hne).symm
    repeat' (first|apply And.intro|exact trivial|exact rfl|exact zf|exact zh|refine zt ?_|fail)
    refine Exists.intro (NY.mk (lI ⟨true,N,c,r,(l.getD j k0).1,(l.getD j k0).2⟩) false N0 0 0 0) ?_
    repeat' (first|with_reducible exact p1|exact p3|apply And.intro|exact trivial|exact rfl|exact zf|exact zh|refine zt ?_|exact fun h=>Bool.noConfusion h|fail)
   ·refine fun (hc:(!decide (lI ⟨true,N,c,r,(l.getD j k0).1,(l.getD j k0).2⟩=0))=false)=>?_
    have he:lI ⟨true,N,c,r,(l.getD j k0).1,(l.getD j k0).2⟩=0:=of_decide_eq_true (T12.Pu hc)
    have hpu:HX.puts ⟨true,N,c,r,(l.getD j k0).1,(l.getD j k0).2⟩=true:=by rw [k2.puts0,<- hcode]; exact decide_eq_true he
    have k5:=k2.put k3 hpu (hy hpu)
    have k6:E9 (l.drop (j+1)) (fX (l.getD j k0).2 (l.getD j k0).1 T)=T19.eZ l:=by
     rw [<- k1,hdr]
     show _=if pcT T (l.getD j k0)=0 then _ else _
     rw [hcode] at he
     rw [if_pos he]
    have kj':j+1<=l.length:=hj
    have k7:0<=K+1000:=by omega
    have k8:K+1000<=((j+1:Nat):Int) * 1000:=by omega
    have k9:l.length - (j+1) < l.length - j:=by omega
    repeat' (first|apply And.intro|exact trivial|exact rfl|exact zf|exact zh|refine zt ?_|(with_reducible first|exact g2|exact g3)|fail)
    refine Exists.intro (j+1,fX (l.getD j k0).2 (l.getD j k0).1 T,nL ⟨true,N,c,r,(l.getD j k0).1,(l.getD j k0).2⟩ y,putc ⟨true,N,c,r,(l.getD j k0).1,(l.getD j k0).2⟩,r,K+1000) ?_
    repeat' (first|(with_reducible first|exact kj'|exact k6|exact k5|exact k7|exact k8|exact k9)|apply And.intro|exact trivial|exact rfl|exact zf|exact zh|refine zt ?_|exact fun (j:Nat) (hj:j < _)=>Or.inl (aT _ _ _ _)|exact fun i=>gP (by exact rfl) (by exact rfl) _|fail)
  ·refine fun (hg:decide ((j:Int) < (l.length:Int))=false)=>?_
   have hj:j=l.length:=by have:=of_decide_eq_false hg; omega
   subst hj
   have k5:T19.eZ l=(0,T):=by rw [<- k1,List.drop_length]; rfl
   have p1:(NY.mk 0 true N c r K).e=(T19.eZ l).1:=by rw [k5]
   have p2:(NY.mk 0 true N c r K).o=true->Tr D (T19.eZ l).2 (NY.mk 0 true N c r K).N (NY.mk 0 true N c r K).c (NY.mk 0 true N c r K).r (NY.mk 0 true N c r K).K/\0<=(NY.mk 0 true N c r K).K/\(NY.mk 0 true N c r K).K<=20000000:=fun _=>by rw [k5]; exact ⟨k2,k3,by show K<=_; omega⟩
   repeat' (first|apply And.intro|exact trivial|exact rfl|exact zf|exact zh|refine zt ?_|fail)
   refine Exists.intro (NY.mk 0 true N c r K) ?_
   repeat' (first|(with_reducible first|exact p1|exact p2)|apply And.intro|exact trivial|exact rfl|exact zf|exact zh|refine zt ?_|exact fun i=>jZ (by exact rfl) (N i)|fail)
end T20
end
section
open Go Go.Eng Go.Proofs T1 T2 T3 T4 T5 T6 T10 T11
set_option maxRecDepth 100000
namespace T21
def rS (l:List Ky) (v:Ky):Int:=match (List.range l.length).find? (fun i=>decide (l.getD i k0=v)) with
 | some i=>i
 | none=>-1
theorem Sy {l:List Ky} {v:Ky} {k:Nat} (hk:k < l.length) (he:l.getD k k0=v) (h:∀ j,j < k->l.getD j k0≠v):rS l v=k:=by
 unfold rS
 rw [List.find?_range_eq_some.2 ⟨by simpa using he,by simpa using hk,fun j hj=>by simpa using h j hj⟩]
theorem K7 {l:List Ky} {v:Ky} (h:∀ j,j < l.length->l.getD j k0≠v):rS l v=-1:=by
 unfold rS
 rw [List.find?_eq_none.2 fun j hj=>by simpa using h j (by simpa using hj)]
def g13:List Nat:=[1,9,0,3,17,5,4]
def c13:aF :=
 .seq (.region g13 [(zo 3 (.box 32 (.s 1))),(zo 4 (.move (cj 0)))]) (.seq (.seq (.region g13 [(zo 5 (.move (cj 0)))]) (.block 0 (.loop 0 [6,7,8,9,12,13,14,15,16,17,18,4,10,11,5] (.seq (.seq (.region g13 [(mv 6 5),(mv 7 0),(zo 8 (.lenSl (.s 7))),(zo 9 (.bin (.lss) (.s 6) (.s 8)))]) (.cond (.s 9) .skip (.exit 0))) (.seq (.block 1 (.seq (.drawn g13 (.pure 0 (mv 12 0) (.pure 1 (mv 13 5) (.pure 2 (zo 14 (.idxSl 2 (.s 12) (.s 13))) (.pure 3 (zo 15 (.load 2 true (.s 14))) (.pure 4 (zo 16 (.load 2 true (.s 3))) (.pure 5 (zo 17 (.eqS false [(0,2),(1,2)] (.s 15) (.s 16))) .done))))))) (.cond (.s 17) (.seq (.region g13 [(mv 18 5),(mv 4 18)]) .ret) .skip))) (.region g13 [(mv 10 5),(zo 11 (.bin (.add) (.s 10) (cj 1))),(mv 5 11)])))))) (.seq (.region g13 [(zo 4 (.move (cj (-1))))]) .ret))
theorem e13:aO Tryz.prog 13 g13 [] [] []=some (c13,[.slot 4],19):=by kernel_rfl
def Ra:Eng.Spec where
 X:=List Ky×Ky
 args:=fun x=>.cons (ksE x.1) (.cons (.agg (wC x.2.1 x.2.2)) .nil)
 pre:=fun x=>x.1.length < 4611686018427387904
 res:=fun x=>.int .i64 (rS x.1 x.2)
 inst:=fun _=>none
theorem Pm:Ra.Ok Tryz.prog 13:=by
 refine Eng.Spec.okR e13 .nil (fun _=>[]) (fun _ _=>aD.nil) ?_
 rintro ⟨l,v⟩ (hn:l.length < 4611686018427387904)
 obtain ⟨t,i⟩:=v
 refine ⟨trivial,?_⟩
 repeat' (first|apply And.intro|exact trivial|exact rfl|exact zf|exact zh|refine zt ?_|fail)
 refine ⟨⟨Nat,fun k=>k<=l.length/\∀ j,j < k->l.getD j k0≠(t,i),fun k=>[(5,.int .i64 (k:Int))],fun _=>[],fun k=>l.length - k⟩,0,⟨Nat.zero_le _,fun j hj=>absurd hj (Nat.not_lt_zero j)⟩,?_,?_⟩
 ·repeat' (first|apply And.intro|exact trivial|exact rfl|exact fun (j:Nat) (hj:j < _)=>Or.inl (aT _ _ _ _)|fail)
 rintro (k:Nat) ⟨(hk:k<=l.length),(hf:∀ j,j < k->l.getD j k0≠(t,i))⟩
 repeat' (first|apply And.intro|exact trivial|exact rfl|fail)
 ·refine fun (hg:decide ((k:Int) < (l.length:Int))=true)=>?_
  have h1:(k:Int) < (l.length:Int):=of_decide_eq_true hg
  have h0:(0:Int)<=(k:Int):=by omega
  have b1:-9223372036854775808<=(k:Int)+1:=by omega
  have b2:(k:Int)+1<=9223372036854775807:=by omega
  have hkl:k < l.length:=by omega
  repeat' (first|apply And.intro|exact trivial|exact rfl|(with_reducible first|exact h0|exact h1)|fail)
  have heq:(decide ((l.getD k k0).1=t) && (decide ((l.getD k k0).2=i) && true))=decide (l.getD k k0=(t,i)):=by
   rw [Bool.eq_iff_iff,decide_eq_true_iff,Prod.ext_iff]
   simp
  ·refine fun (h:(decide ((l.getD k k0).1=t) && (decide ((l.getD k k0).2=i) && true))=true)=>?_
   rw [heq] at h
   have e:(k:Int)=rS l (t,i):=(Sy hkl (of_decide_eq_true h) hf).symm
   repeat' (first|apply And.intro|exact trivial|exact rfl|exact e|fail)
  ·refine fun (h:(decide ((l.getD k k0).1=t) && (decide ((l.getD k k0).2=i) && true))=false)=>?_
   have heq:(decide ((l.getD k k0).1=t) && (decide ((l.getD k k0).2=i) && true))=decide (l.getD k k0=(t,i)):=by
    rw [Bool.eq_iff_iff,decide_eq_true_iff,Prod.ext_iff]
    simp
   rw [heq] at h
   have hkl':k+1<=l.length:=hkl
   have hf':∀ j,j < k+1->l.getD j k0≠(t,i):=fun j hj=>by
    by_cases e:j=k
    ·rw [e]; exact of_decide_eq_false h
    ·exact hf j (by omega)
   have hms:l.length - (k+1) < l.length - k:=by omega
   repeat' (first|apply And.intro|exact trivial|exact rfl|(with_reducible first|exact b1|exact b2)|fail)
   refine Exists.intro (k+1) ?_
   repeat' (first|apply And.intro|exact trivial|exact rfl|(with_reducible first|exact hkl'|exact hf'|exact hms)|exact fun (j:Nat) (hj:j < _)=>Or.inl (aT _ _ _ _)|fail)
 ·refine fun (hg:decide ((k:Int) < (l.length:Int))=false)=>?_
  have hkl:k=l.length:=by have:=of_decide_eq_false hg; omega
  subst hkl
  have e:-1=rS l (t,i):=(K7 hf).symm
  repeat' (first|apply And.intro|exact trivial|exact rfl|exact e|fail)
end T21
end
section
open Go Go.Eng Go.Proofs T1 T2 T3 T4 T5 T6 T10 T11 T21
set_option maxRecDepth 100000
namespace T22
theorem A7 {α:Type} {a b:List α} {d:α} (hl:a.length=b.length) (h:∀ j,j < a.length->a.getD j d=b.getD j d):a=b:=by
 refine List.ext_getElem hl fun j h1 h2=>?_
 have:=h j h1
 simpa [h1,h2] using this
def g31:List Nat:=[10,14,0,1,25,5,4]
def c31:aF :=
 .seq (.region g31 [(zo 4 (.move cF))]) (.seq (.seq (.region g31 [(mv 6 0),(zo 7 (.lenSl (.s 6))),(mv 8 1),(zo 9 (.lenSl (.s 8))),(zo 10 (.bin (.neq) (.s 7) (.s 9)))]) (.cond (.s 10) (.seq (.region g31 [(zo 4 (.move cF))]) .ret) .skip)) (.seq (.seq (.region g31 [(zo 5 (.move (cj 0)))]) (.block 0 (.loop 0 [11,12,13,14,17,18,19,20,21,22,23,24,25,4,15,16,5] (.seq (.seq (.region g31 [(mv 11 5),(mv 12 0),(zo 13 (.lenSl (.s 12))),(zo 14 (.bin (.lss) (.s 11) (.s 13)))]) (.cond (.s 14) .skip (.exit 0))) (.seq (.block 1 (.seq (.drawn g31 (.pure 0 (mv 17 0) (.pure 1 (mv 18 5) (.pure 2 (zo 19 (.idxSl 1 (.s 17) (.s 18))) (.pure 3 (ld 20 19) (.pure 4 (mv 21 1) (.pure 5 (mv 22 5) (.pure 6 (zo 23 (.idxSl 1 (.s 21) (.s 22))) (.pure 7 (ld 24 23) (.pure 8 (zo 25 (.bin (.neq) (.s 20) (.s 24))) .done)))))))))) (.cond (.s 25) (.seq (.region g31 [(zo 4 (.move cF))]) .ret) .skip))) (.region g31 [(mv 15 5),(zo 16 (.bin (.add) (.s 15) (cj 1))),(mv 5 16)])))))) (.seq (.region g31 [(zo 4 (.move cT))]) .ret)))
theorem e31:aO Tryz.prog 31 g31 [] [] []=some (c31,[.slot 4],26):=by kernel_rfl
def V4:Eng.Spec where
 X:=List B×List B
 args:=fun x=>.cons (slE x.1) (.cons (slE x.2) .nil)
 pre:=fun x=>x.1.length < 4611686018427387904
 res:=fun x=>.bool (decide (x.1=x.2))
 inst:=fun _=>none
theorem Ue:V4.Ok Tryz.prog 31:=by
 refine Eng.Spec.okR e31 .nil (fun _=>[]) (fun _ _=>aD.nil) ?_
 rintro ⟨a,b⟩ (hn:a.length < 4611686018427387904)
 refine ⟨trivial,?_⟩
 repeat' (first|apply And.intro|exact trivial|exact rfl|exact zf|exact zh|refine zt ?_|fail)
 ·refine fun (h:(!decide ((a.length:Int)=(b.length:Int)))=true)=>?_
  have hne:a≠b:=by
   rintro rfl
   simp at h
  have e:false=decide (a=b):=(decide_eq_false hne).symm
  repeat' (first|apply And.intro|exact trivial|exact rfl|exact e|fail)
 ·refine fun (h:(!decide ((a.length:Int)=(b.length:Int)))=false)=>?_
  have hl:a.length=b.length:=by
   have:decide ((a.length:Int)=(b.length:Int))=true:=by revert h; cases decide ((a.length:Int)=(b.length:Int)) <;> simp
   have:=of_decide_eq_true this
   omega
  repeat' (first|apply And.intro|exact trivial|exact rfl|exact zf|exact zh|refine zt ?_|fail)
  refine ⟨⟨Nat,fun k=>k<=a.length/\∀ j,j < k->a.getD j []=b.getD j [],fun k=>[(5,.int .i64 (k:Int))],fun _=>[],fun k=>a.length - k⟩,0,⟨Nat.zero_le _,fun j hj=>absurd hj (Nat.not_lt_zero j)⟩,?_,?_⟩
  ·repeat' (first|apply And.intro|exact trivial|exact rfl|exact fun (j:Nat) (hj:j < _)=>Or.inl (aL _ _ _ _)|fail)
  rintro (k:Nat) ⟨(hk:k<=a.length),(hf:∀ j,j < k->a.getD j []=b.getD j [])⟩
  repeat' (first|apply And.intro|exact trivial|exact rfl|fail)
  ·refine fun (hg:decide ((k:Int) < (a.length:Int))=true)=>?_
   have h1:(k:Int) < (a.length:Int):=of_decide_eq_true hg
   have h2:(k:Int) < (b.length:Int):=by omega
   have h0:(0:Int)<=(k:Int):=by omega
   have b1:-9223372036854775808<=(k:Int)+1:=by omega
   have b2:(k:Int)+1<=9223372036854775807:=by omega
   have hkl:k < a.length:=by omega
   repeat' (first|apply And.intro|exact trivial|exact rfl|(with_reducible first|exact h0|exact h1|exact h2)|fail)
   ·refine fun (hv:(!decide (a.getD k []=b.getD k []))=true)=>?_
    have hne:a≠b:=by
     rintro rfl
     simp at hv
    have e:false=decide (a=b):=(decide_eq_false hne).symm
    repeat' (first|apply And.intro|exact trivial|exact rfl|exact e|fail)
   ·refine fun (hv:(!decide (a.getD k []=b.getD k []))=false)=>?_
    have hv':a.getD k []=b.getD k []:=by
     have:decide (a.getD k []=b.getD k [])=true:=by revert hv; cases decide (a.getD k []=b.getD k []) <;> simp
     exact of_decide_eq_true this
    have hkl':k+1<=a.length:=hkl
    have hf':∀ j,j < k+1->a.getD j []=b.getD j []:=fun j hj=>by
     by_cases e:j=k
     ·rw [e]; exact hv'
     ·exact hf j (by omega)
    have hms:a.length - (k+1) < a.length - k:=by omega
    repeat' (first|apply And.intro|exact trivial|exact rfl|(with_reducible first|exact b1|exact b2)|fail)
    refine Exists.intro (k+1) ?_
    repeat' (first|apply And.intro|exact trivial|exact rfl|(with_reducible first|exact hkl'|exact hf'|exact hms)|exact fun (j:Nat) (hj:j < _)=>Or.inl (aL _ _ _ _)|fail)
  ·refine fun (hg:decide ((k:Int) < (a.length:Int))=false)=>?_
   have hkl:k=a.length:=by have:=of_decide_eq_false hg; omega
   subst hkl
   have e:true=decide (a=b):=(decide_eq_true (A7 hl hf)).symm
   repeat' (first|apply And.intro|exact trivial|exact rfl|exact e|fail)
def V1:aK:=V4.mof Bool (fun x y=>y=decide (x.1=x.2)) (fun _ y=>.bool y)
theorem Qi:V1.Ok Tryz.prog 31:=Eng.Spec.iN Ue fun _ _=>⟨_,rfl,rfl⟩
def g28:List Nat:=[10,14,0,1,25,5,4]
def c28:aF :=
 .seq (.region g28 [(zo 4 (.move cF))]) (.seq (.seq (.region g28 [(mv 6 0),(zo 7 (.lenSl (.s 6))),(mv 8 1),(zo 9 (.lenSl (.s 8))),(zo 10 (.bin (.neq) (.s 7) (.s 9)))]) (.cond (.s 10) (.seq (.region g28 [(zo 4 (.move cF))]) .ret) .skip)) (.seq (.seq (.region g28 [(zo 5 (.move (cj 0)))]) (.block 0 (.loop 0 [11,12,13,14,17,18,19,20,21,22,23,24,25,4,15,16,5] (.seq (.seq (.region g28 [(mv 11 5),(mv 12 0),(zo 13 (.lenSl (.s 12))),(zo 14 (.bin (.lss) (.s 11) (.s 13)))]) (.cond (.s 14) .skip (.exit 0))) (.seq (.block 1 (.seq (.drawn g28 (.pure 0 (mv 17 0) (.pure 1 (mv 18 5) (.pure 2 (zo 19 (.idxSl 2 (.s 17) (.s 18))) (.pure 3 (zo 20 (.load 2 true (.s 19))) (.pure 4 (mv 21 1) (.pure 5 (mv 22 5) (.pure 6 (zo 23 (.idxSl 2 (.s 21) (.s 22))) (.pure 7 (zo 24 (.load 2 true (.s 23))) (.pure 8 (zo 25 (.eqS true [(0,2),(1,2)] (.s 20) (.s 24))) .done)))))))))) (.cond (.s 25) (.seq (.region g28 [(zo 4 (.move cF))]) .ret) .skip))) (.region g28 [(mv 15 5),(zo 16 (.bin (.add) (.s 15) (cj 1))),(mv 5 16)])))))) (.seq (.region g28 [(zo 4 (.move cT))]) .ret)))
theorem e28:aO Tryz.prog 28 g28 [] [] []=some (c28,[.slot 4],26):=by kernel_rfl
def Wf:Eng.Spec where
 X:=List Ky×List Ky
 args:=fun x=>.cons (ksE x.1) (.cons (ksE x.2) .nil)
 pre:=fun x=>x.1.length < 4611686018427387904
 res:=fun x=>.bool (decide (x.1=x.2))
 inst:=fun _=>none
theorem Lp:Wf.Ok Tryz.prog 28:=by
 refine Eng.Spec.okR e28 .nil (fun _=>[]) (fun _ _=>aD.nil) ?_
 rintro ⟨a,b⟩ (hn:a.length < 4611686018427387904)
 refine ⟨trivial,?_⟩
 repeat' (first|apply And.intro|exact trivial|exact rfl|exact zf|exact zh|refine zt ?_|fail)
 ·refine fun (h:(!decide ((a.length:Int)=(b.length:Int)))=true)=>?_
  have hne:a≠b:=by
   rintro rfl
   simp at h
  have e:false=decide (a=b):=(decide_eq_false hne).symm
  repeat' (first|apply And.intro|exact trivial|exact rfl|exact e|fail)
 ·refine fun (h:(!decide ((a.length:Int)=(b.length:Int)))=false)=>?_
  have hl:a.length=b.length:=by
   have:decide ((a.length:Int)=(b.length:Int))=true:=by revert h; cases decide ((a.length:Int)=(b.length:Int)) <;> simp
   have:=of_decide_eq_true this
   omega
  repeat' (first|apply And.intro|exact trivial|exact rfl|exact zf|exact zh|refine zt ?_|fail)
  refine ⟨⟨Nat,fun k=>k<=a.length/\∀ j,j < k->a.getD j k0=b.getD j k0,fun k=>[(5,.int .i64 (k:Int))],fun _=>[],fun k=>a.length - k⟩,0,⟨Nat.zero_le _,fun j hj=>absurd hj (Nat.not_lt_zero j)⟩,?_,?_⟩
  ·repeat' (first|apply And.intro|exact trivial|exact rfl|exact fun (j:Nat) (hj:j < _)=>Or.inl (aT _ _ _ _)|fail)
  rintro (k:Nat) ⟨(hk:k<=a.length),(hf:∀ j,j < k->a.getD j k0=b.getD j k0)⟩
  repeat' (first|apply And.intro|exact trivial|exact rfl|fail)
  ·refine fun (hg:decide ((k:Int) < (a.length:Int))=true)=>?_
   have h1:(k:Int) < (a.length:Int):=of_decide_eq_true hg
   have h2:(k:Int) < (b.length:Int):=by omega
   have h0:(0:Int)<=(k:Int):=by omega
   have b1:-9223372036854775808<=(k:Int)+1:=by omega
   have b2:(k:Int)+1<=9223372036854775807:=by omega
   have hkl:k < a.length:=by omega
   repeat' (first|apply And.intro|exact trivial|exact rfl|(with_reducible first|exact h0|exact h1|exact h2)|fail)
   ·refine fun (hv:(!(decide ((a.getD k k0).1=(b.getD k k0).1) && (decide ((a.getD k k0).2=(b.getD k k0).2) && true)))=true)=>?_
    have heq:(decide ((a.getD k k0).1=(b.getD k k0).1) && (decide ((a.getD k k0).2=(b.getD k k0).2) && true))=decide (a.getD k k0=b.getD k k0):=by
     rw [Bool.eq_iff_iff,decide_eq_true_iff,Prod.ext_iff]
     simp
    rw [heq] at hv
    have hne:a≠b:=by
     rintro rfl
     simp at hv
    have e:false=decide (a=b):=(decide_eq_false hne).symm
    repeat' (first|apply And.intro|exact trivial|exact rfl|exact e|fail)
   ·refine fun (hv:(!(decide ((a.getD k k0).1=(b.getD k k0).1) && (decide ((a.getD k k0).2=(b.getD k k0).2) && true)))=false)=>?_
    have heq:(decide ((a.getD k k0).1=(b.getD k k0).1) && (decide ((a.getD k k0).2=(b.getD k k0).2) && true))=decide (a.getD k k0=b.getD k k0):=by
     rw [Bool.eq_iff_iff,decide_eq_true_iff,Prod.ext_iff]
     simp
    rw [heq] at hv
    have hv':a.getD k k0=b.getD k k0:=by
     have:decide (a.getD k k0=b.getD k k0)=true:=by revert hv; cases decide (a.getD k k0=b.getD k k0) <;> simp
     exact of_decide_eq_true this
    have hkl':k+1<=a.length:=hkl
    have hf':∀ j,j < k+1->a.getD j k0=b.getD j k0:=fun j hj=>by
     by_cases e:j=k
     ·rw [e]; exact hv'
     ·exact hf j (by omega)
    have hms:a.length - (k+1) < a.length - k:=by omega
    repeat' (first|apply And.intro|exact trivial|exact rfl|(with_reducible first|exact b1|exact b2)|fail)
    refine Exists.intro (k+1) ?_
    repeat' (first|apply And.intro|exact trivial|exact rfl|(with_reducible first|exact hkl'|exact hf'|exact hms)|exact fun (j:Nat) (hj:j < _)=>Or.inl (aT _ _ _ _)|fail)
  ·refine fun (hg:decide ((k:Int) < (a.length:Int))=false)=>?_
   have hkl:k=a.length:=by have:=of_decide_eq_false hg; omega
   subst hkl
   have e:true=decide (a=b):=(decide_eq_true (A7 hl hf)).symm
   repeat' (first|apply And.intro|exact trivial|exact rfl|exact e|fail)
def gF (k:Ky):Bool:=decide (k.1.length<=40) && decide (k.2.length<=40)
def rR (l:List Ky) (n:Nat):Bool:=decide (l.length<=n) && l.all gF
def g17:List Nat:=[14,32,5,0,1,4]
def c17:aF :=
 .seq (.region g17 [(zo 4 (.move cF))]) (.seq (.seq (.region g17 [(zo 5 (.move (cj 0)))]) (.block 0 (.loop 0 [6,7,8,9,10,11,12,13,14,17,18,19,20,21,22,23,24,25,26,27,28,29,30,31,32,4,15,16,5] (.seq (.seq (.region g17 [(mv 6 5),(mv 7 0),(zo 8 (.lenSl (.s 7))),(zo 9 (.bin (.lss) (.s 6) (.s 8))),(mv 10 9),(mg 11 10 true 5),(mg 12 10 true 1),(zg 13 10 true (.bin (.lss) (.s 11) (.s 12))),(zo 14 (.pick (.s 10) (.s 13) cF))]) (.cond (.s 14) .skip (.exit 0))) (.seq (.block 1 (.seq (.region g17 [(mv 17 0),(mv 18 5),(zo 19 (.idxSl 2 (.s 17) (.s 18))),(fa 20 0 19),(ld 21 20),(zo 22 (.lenStr (.s 21))),(zo 23 (.bin (.gtr) (.s 22) (cj 40))),(mv 24 23),(mg 25 24 false 0),(mg 26 24 false 5),(zg 27 24 false (.idxSl 2 (.s 25) (.s 26))),(fg 28 24 false 1 27),(lg 29 24 false 28),(zg 30 24 false (.lenStr (.s 29))),(zg 31 24 false (.bin (.gtr) (.s 30) (cj 40))),(zo 32 (.pick (.s 24) cT (.s 31)))]) (.cond (.s 32) (.seq (.region g17 [(zo 4 (.move cF))]) .ret) .skip))) (.region g17 [(mv 15 5),(zo 16 (.bin (.add) (.s 15) (cj 1))),(mv 5 16)])))))) (.seq (.region g17 [(mv 33 0),(zo 34 (.lenSl (.s 33))),(mv 35 1),(zo 36 (.bin (.leq) (.s 34) (.s 35))),(mv 4 36)]) .ret))
theorem e17:aO Tryz.prog 17 g17 [] [] []=some (c17,[.slot 4],37):=by kernel_rfl
def U8:Eng.Spec where
 X:=List Ky×Nat
 args:=fun x=>.cons (ksE x.1) (.cons (.int .i64 (x.2:Int)) .nil)
 pre:=fun x=>x.1.length < 4611686018427387904
 res:=fun x=>.bool (rR x.1 x.2)
 inst:=fun _=>none
theorem Su:U8.Ok Tryz.prog 17:=by
 refine Eng.Spec.okR e17 .nil (fun _=>[]) (fun _ _=>aD.nil) ?_
 rintro ⟨l,n⟩ (hn:l.length < 4611686018427387904)
 refine ⟨trivial,?_⟩
 repeat' (first|apply And.intro|exact trivial|exact rfl|exact zf|exact zh|refine zt ?_|fail)
 refine ⟨⟨Nat,fun k=>(k<=l.length/\k<=n)/\∀ j,j < k->gF (l.getD j k0)=true,fun k=>[(5,.int .i64 (k:Int))],fun _=>[],fun k=>l.length - k⟩,0,⟨⟨Nat.zero_le _,Nat.zero_le _⟩,fun j hj=>absurd hj (Nat.not_lt_zero j)⟩,?_,?_⟩
 ·repeat' (first|apply And.intro|exact trivial|exact rfl|exact fun (j:Nat) (hj:j < _)=>Or.inl (aT _ _ _ _)|fail)
 rintro (k:Nat) ⟨⟨(hk:k<=l.length),(hkn:k<=n)⟩,(hf:∀ j,j < k->gF (l.getD j k0)=true)⟩
 have b1:-9223372036854775808<=(k:Int)+1:=by omega
 have b2:(k:Int)+1<=9223372036854775807:=by omega
 have h0:(0:Int)<=(k:Int):=by omega
 repeat' (first|apply And.intro|exact trivial|exact rfl|fail)
 ·refine fun (hg:aS (decide ((k:Int) < (l.length:Int))) (.s 13) cF (decide ((k:Int) < (n:Int))) false=true)=>?_
  rw [bA,Bool.and_eq_true,decide_eq_true_eq,decide_eq_true_eq] at hg
  have h1:=hg.1
  have hkl:k < l.length:=by omega
  repeat' (first|apply And.intro|exact trivial|exact rfl|(with_reducible first|exact h0|exact h1)|fail)
  ·refine fun _=>?_
   repeat' (first|apply And.intro|exact trivial|exact rfl|(with_reducible first|exact h0|exact h1)|fail)
  ·refine fun (hv:aS (decide (((l.getD k k0).1.length:Int) > 40)) cT (.s 31) true (decide (((l.getD k k0).2.length:Int) > 40))=true)=>?_
   rw [dH,Bool.or_eq_true,decide_eq_true_eq,decide_eq_true_eq] at hv
   have e:false=rR l n:=by
    symm
    unfold rR
    have:l.all gF=false:=by
     rw [List.all_eq_false]
     refine ⟨l.getD k k0,?_,?_⟩
     ·rw [List.getD_eq_getElem?_getD,List.getElem?_eq_getElem hkl]; exact List.getElem_mem hkl
     ·unfold gF
      rw [Bool.and_eq_true,decide_eq_true_eq,decide_eq_true_eq]
      omega
    rw [this,Bool.and_false]
   repeat' (first|apply And.intro|exact trivial|exact rfl|exact e|fail)
  ·refine fun (hv:aS (decide (((l.getD k k0).1.length:Int) > 40)) cT (.s 31) true (decide (((l.getD k k0).2.length:Int) > 40))=false)=>?_
   rw [dH,Bool.or_eq_false_iff,decide_eq_false_iff_not,decide_eq_false_iff_not] at hv
   have hkl':k+1<=l.length:=hkl
   have hkn':k+1<=n:=by omega
   have hf':∀ j,j < k+1->gF (l.getD j k0)=true:=fun j hj=>by
    by_cases e:j=k
    ·rw [e]; unfold gF; rw [Bool.and_eq_true,decide_eq_true_eq,decide_eq_true_eq]; omega
    ·exact hf j (by omega)
   have hms:l.length - (k+1) < l.length - k:=by omega
   repeat' (first|apply And.intro|exact trivial|exact rfl|(with_reducible first|exact b1|exact b2)|fail)
   refine Exists.intro (k+1) ?_
   repeat' (first|apply And.intro|exact trivial|exact rfl|(with_reducible first|exact hkl'|exact hkn'|exact hf'|exact hms)|exact fun (j:Nat) (hj:j < _)=>Or.inl (aT _ _ _ _)|fail)
 ·refine fun (hg:aS (decide ((k:Int) < (l.length:Int))) (.s 13) cF (decide ((k:Int) < (n:Int))) false=false)=>?_
  rw [bA,Bool.and_eq_false_iff,decide_eq_false_iff_not,decide_eq_false_iff_not] at hg
  have e:decide ((l.length:Int)<=(n:Int))=rR l n:=by
   unfold rR
   by_cases hl:l.length<=n
   ·have hkl:k=l.length:=by omega
    have:l.all gF=true:=by
     rw [List.all_eq_true]
     intro x hx
     obtain ⟨j,hj,rfl⟩:=List.getElem_of_mem hx
     have:=hf j (by omega)
     simpa [hj] using this
    rw [this,decide_eq_true hl,decide_eq_true (by omega)]; rfl
   ·rw [decide_eq_false hl,decide_eq_false (by omega)]; rfl
  repeat' (first|apply And.intro|exact trivial|exact rfl|exact e|fail)
end T22
end
section
open Go Go.Eng Go.Proofs T1 T2 T3 T4 T5 T6 T10 T11 T21 T22
set_option maxRecDepth 100000
namespace T23
structure ND where
 ids:List B
 bys:B
 kids:List B
 deriving DecidableEq
def ndL (n:ND):SV:=.cons (slE n.ids) (.cons (.str n.bys) (.cons (slE n.kids) .nil))
def g27:List Nat:=[0,1,2,3,4]
def c27:aF :=
 .seq (.region g27 [(zo 2 (.box 39 (.s 0))),(zo 3 (.box 39 (.s 1))),(zo 4 (.move cF))]) (.seq (.region g27 [(fa 5 0 2),(ld 6 5),(fa 7 0 3),(ld 8 7),(zo 9 (.call (.c (.fn 31)) [.s 6,.s 8])),(mv 10 9),(fg 11 10 true 1 2),(lg 12 10 true 11),(fg 13 10 true 1 3),(lg 14 10 true 13),(zg 15 10 true (.bin (.eql) (.s 12) (.s 14))),(zo 16 (.pick (.s 10) (.s 15) cF)),(mv 17 16),(fg 18 17 true 2 2),(lg 19 17 true 18),(fg 20 17 true 2 3),(lg 21 17 true 20),(zg 22 17 true (.call (.c (.fn 31)) [.s 19,.s 21])),(zo 23 (.pick (.s 17) (.s 22) cF)),(mv 4 23)]) .ret)
theorem e27:aO Tryz.prog 27 g27 [] [] []=some (c27,[.slot 4],24):=by kernel_rfl
def Ri:Eng.Spec where
 X:=ND×ND
 args:=fun x=>.cons (.agg (ndL x.1)) (.cons (.agg (ndL x.2)) .nil)
 pre:=fun x=>x.1.ids.length < 4611686018427387904/\x.1.kids.length < 4611686018427387904
 res:=fun x=>.bool (decide (x.1=x.2))
 inst:=fun _=>none
theorem P3:Ri.Ok Tryz.prog 27:=by
 refine Eng.Spec.okR e27 .nil (fun _=>[(31,.m V1)]) (fun _ _=>aD.m Qi aD.nil) ?_
 rintro ⟨⟨i1,b1,k1⟩,⟨i2,b2,k2⟩⟩ ⟨(hi:i1.length < 4611686018427387904),(hk:k1.length < 4611686018427387904)⟩
 refine ⟨trivial,?_⟩
 repeat' (first|apply And.intro|exact trivial|exact rfl|exact zf|exact zh|refine zt ?_|fail)
 refine Exists.intro (i1,i2) (Exists.intro [] ?_)
 repeat' (first|apply And.intro|exact trivial|exact rfl|exact fun (j:Nat) (hj:j < _)=>Or.inl (aL _ _ _ _)|exact hi|fail)
 refine fun (y:Bool) (hy:y=decide (i1=i2))=>?_
 subst hy
 repeat' (first|apply And.intro|exact trivial|exact rfl|exact zf|exact zh|refine zt ?_|fail)
 ·refine fun (h:aS (decide (i1=i2)) (.s 15) cF (decide (b1=b2)) false=true)=>?_
  rw [bA,Bool.and_eq_true,decide_eq_true_eq,decide_eq_true_eq] at h
  refine Exists.intro (k1,k2) (Exists.intro [] ?_)
  repeat' (first|apply And.intro|exact trivial|exact rfl|exact fun (j:Nat) (hj:j < _)=>Or.inl (aL _ _ _ _)|exact hk|fail)
  refine fun (y:Bool) (hy:y=decide (k1=k2))=>?_
  subst hy
  have e:aS (aS (decide (i1=i2)) (.s 15) cF (decide (b1=b2)) false) (.s 22) cF (decide (k1=k2)) false=decide (ND.mk i1 b1 k1=ND.mk i2 b2 k2):=by
   rw [bA,bA,h.1,h.2]
   simp
  repeat' (first|apply And.intro|exact trivial|exact rfl|exact zf|exact zh|refine zt ?_|exact e|fail)
 ·refine fun (h:aS (decide (i1=i2)) (.s 15) cF (decide (b1=b2)) false=!true)=>?_
  have h':(decide (i1=i2) && decide (b1=b2))=false:=by
   have h0:=h
   rw [bA] at h0
   exact h0
  have e:false=decide (ND.mk i1 b1 k1=ND.mk i2 b2 k2):=by
   symm
   rw [decide_eq_false_iff_not]
   intro e
   cases e
   simp at h'
  repeat' (first|apply And.intro|exact trivial|exact rfl|exact zf|exact zh|refine zt ?_|exact e|exact h|fail)
end T23
end
section
open Go Go.Eng Go.Proofs T1 T2 T3 T4 T5 T6 T10 T11 T21 T22 T23
set_option maxRecDepth 100000
namespace T24
abbrev Ac:=Bool×Ky
def a0:Ac:=(false,k0)
def J5 (a:Ac):SV:=.cons (.bool a.1) (oL a.2)
theorem eY (k:Keep) (hp:List (Nat×aC)) (m:Nat) (x:Ac):sub k hp (m+5) (J5 x) (J5 x):=⟨rfl,rfl,rfl,trivial⟩
def acE (l:List Ac):SV:=.slice 3 l.length fun i=>J5 (l.getD i a0)
def U7:aK:=U8.mof Bool (fun x y=>y=rR x.1 x.2) (fun _ y=>.bool y)
theorem Ow:U7.Ok Tryz.prog 17:=Eng.Spec.iN Su fun _ _=>⟨_,rfl,rfl⟩
def vY (l:List Ac):Bool:=decide (l.length<=12) && l.all fun a=>gF a.2
def g12:List Nat:=[7,0,21,3,2]
def c12:aF :=
 .seq (.region g12 [(zo 2 (.move cF))]) (.seq (.seq (.region g12 [(zo 3 (.move (cj 0)))]) (.block 0 (.loop 0 [4,5,6,7,10,11,12,13,14,15,16,17,18,19,20,21,2,8,9,3] (.seq (.seq (.region g12 [(mv 4 3),(mv 5 0),(zo 6 (.lenSl (.s 5))),(zo 7 (.bin (.lss) (.s 4) (.s 6)))]) (.cond (.s 7) .skip (.exit 0))) (.seq (.block 1 (.seq (.region g12 [(mv 10 3),(zo 11 (.bin (.geq) (.s 10) (cj 12))),(mv 12 11),(mg 13 12 false 0),(mg 14 12 false 3),(zg 15 12 false (.idxSl 3 (.s 13) (.s 14))),(fg 16 12 false 1 15),(zg 17 12 false (.load 2 true (.s 16))),(zg 18 12 false (.buildSl 32 2 1 (.cons (.str []) (.cons (.str []) .nil)) [(0,2,.s 17)])),(zg 19 12 false (.call (.c (.fn 17)) [.s 18,cj 1])),(zg 20 12 false (.not (.s 19))),(zo 21 (.pick (.s 12) cT (.s 20)))]) (.cond (.s 21) (.seq (.region g12 [(zo 2 (.move cF))]) .ret) .skip))) (.region g12 [(mv 8 3),(zo 9 (.bin (.add) (.s 8) (cj 1))),(mv 3 9)])))))) (.seq (.region g12 [(zo 2 (.move cT))]) .ret))
theorem e12:aO Tryz.prog 12 g12 [] [] []=some (c12,[.slot 2],22):=by kernel_rfl
def Q8:Eng.Spec where
 X:=List Ac
 args:=fun x=>.cons (acE x) .nil
 pre:=fun x=>x.length < 4611686018427387904
 res:=fun x=>.bool (vY x)
 inst:=fun _=>none
theorem Pl:Q8.Ok Tryz.prog 12:=by
 refine Eng.Spec.okR e12 .nil (fun _=>[(17,.m U7)]) (fun _ _=>aD.m Ow aD.nil) ?_
 rintro (l:List Ac) (hn:l.length < 4611686018427387904)
 refine ⟨trivial,?_⟩
 repeat' (first|apply And.intro|exact trivial|exact rfl|exact zf|exact zh|refine zt ?_|fail)
 refine ⟨⟨Nat,fun k=>(k<=l.length/\k<=12)/\∀ j,j < k->gF (l.getD j a0).2=true,fun k=>[(3,.int .i64 (k:Int))],fun _=>[],fun k=>l.length - k⟩,0,⟨⟨Nat.zero_le _,Nat.zero_le _⟩,fun j hj=>absurd hj (Nat.not_lt_zero j)⟩,?_,?_⟩
 ·repeat' (first|apply And.intro|exact trivial|exact rfl|exact fun (j:Nat) (hj:j < _)=>Or.inl (eY _ _ _ _)|fail)
 rintro (k:Nat) ⟨⟨(hk:k<=l.length),(hkn:k<=12)⟩,(hf:∀ j,j < k->gF (l.getD j a0).2=true)⟩
 have b1:-9223372036854775808<=(k:Int)+1:=by omega
 have b2:(k:Int)+1<=9223372036854775807:=by omega
 have h0:(0:Int)<=(k:Int):=by omega
 repeat' (first|apply And.intro|exact trivial|exact rfl|fail)
 ·refine fun (hg:decide ((k:Int) < (l.length:Int))=true)=>?_
  have h1:=of_decide_eq_true hg
  have hkl:k < l.length:=by omega
  repeat' (first|apply And.intro|exact trivial|exact rfl|(with_reducible first|exact h0|exact h1)|fail)
  ·refine fun _=>?_
   repeat' (first|apply And.intro|exact trivial|exact rfl|(with_reducible first|exact h0|exact h1)|fail)
  ·refine fun (hv:decide ((k:Int)>=12)=false)=>?_
   have h12:=of_decide_eq_false hv
   have hl1:[(l.getD k a0).2].length < 4611686018427387904:=by simp
   refine Exists.intro ([(l.getD k a0).2],1) (Exists.intro [] ?_)
   repeat' (first|apply And.intro|exact trivial|exact rfl|(refine fun (j:Nat) (hj:j < 1)=>?_; obtain rfl:j=0:=(by omega); exact Or.inl (aT _ _ _ _))|exact hl1|fail)
   refine fun (y:Bool) (hy:y=rR [(l.getD k a0).2] 1)=>?_
   subst hy
   have hfe:rR [(l.getD k a0).2] 1=gF (l.getD k a0).2:=by
    unfold rR
    simp
   repeat' (first|apply And.intro|exact trivial|exact rfl|exact zf|exact zh|refine zt ?_|fail)
   ·refine fun (hp:aS (decide ((k:Int)>=12)) cT (.s 20) true (!rR [(l.getD k a0).2] 1)=true)=>?_
    rw [dH,hv,Bool.false_or] at hp
    have hp':=T12.Pv hp
    have e:false=vY l:=by
     symm
     unfold vY
     have:(l.all fun a=>gF a.2)=false:=by
      rw [List.all_eq_false]
      refine ⟨l.getD k a0,?_,?_⟩
      ·rw [List.getD_eq_getElem?_getD,List.getElem?_eq_getElem hkl]; exact List.getElem_mem hkl
      ·unfold rR at hp'
       simpa using hp'
     rw [this,Bool.and_false]
    repeat' (first|apply And.intro|exact trivial|exact rfl|exact e|fail)
   ·refine fun (hp:aS (decide ((k:Int)>=12)) cT (.s 20) true (!rR [(l.getD k a0).2] 1)=false)=>?_
    rw [dH,hv,Bool.false_or] at hp
    have hp':=T12.Pu hp
    have hs:gF (l.getD k a0).2=true:=by
     unfold rR at hp'
     simpa using hp'
    have hkl':k+1<=l.length:=hkl
    have hkn':k+1<=12:=by omega
    have hf':∀ j,j < k+1->gF (l.getD j a0).2=true:=fun j hj=>by
     by_cases e:j=k
     ·rw [e]; exact hs
     ·exact hf j (by omega)
    have hms:l.length - (k+1) < l.length - k:=by omega
    repeat' (first|apply And.intro|exact trivial|exact rfl|(with_reducible first|exact b1|exact b2)|fail)
    refine Exists.intro (k+1) ?_
    repeat' (first|apply And.intro|exact trivial|exact rfl|(with_reducible first|exact hkl'|exact hkn'|exact hf'|exact hms)|exact fun (j:Nat) (hj:j < _)=>Or.inl (eY _ _ _ _)|fail)
  ·refine fun (hv:decide ((k:Int)>=12)=!false)=>?_
   have h12:(k:Int)>=12:=of_decide_eq_true hv
   have e:false=vY l:=by
    symm
    unfold vY
    rw [decide_eq_false (by omega),Bool.false_and]
   repeat' (first|apply And.intro|exact trivial|exact rfl|exact zf|exact zh|refine zt ?_|exact e|exact hv|exact fun (h:decide ((k:Int)>=12)=false)=>Bool.noConfusion (hv.symm.trans h)|fail)
 ·refine fun (hg:decide ((k:Int) < (l.length:Int))=false)=>?_
  have hkl:k=l.length:=by have:=of_decide_eq_false hg; omega
  have e:true=vY l:=by
   symm
   unfold vY
   rw [Bool.and_eq_true,decide_eq_true_eq,List.all_eq_true]
   refine ⟨by omega,fun x hx=>?_⟩
   obtain ⟨j,hj,rfl⟩:=List.getElem_of_mem hx
   have:=hf j (by omega)
   simpa [hj] using this
  repeat' (first|apply And.intro|exact trivial|exact rfl|exact e|fail)
end T24
end
section
open Go Go.Eng Go.Proofs T1 T2 T3 T4 T5 T6 T23
set_option maxRecDepth 100000
namespace T25
def lsH (i:Nat) (l:List B):Nat×aC:=(i,.arr 9 1 l.length fun j=>idE (l.getD j []))
theorem Kf {P:Bool->Prop} (h1:P true) (h0:P false):∀ b,P b
 | true=>h1
 | false=>h0
def g80:List Nat:=[4,0,2]
def c80:aF :=
 .seq (.region g80 [(zo 2 (.move (.c (.nilsl))))]) (.seq (.seq (.region g80 [(mv 3 0),(zo 4 (.slNil false (.s 3) (.c (.nilsl))))]) (.cond (.s 4) (.seq (.region g80 [(zo 2 (.move (.c (.nilsl))))]) .ret) .skip)) (.seq (.region g80 [(zo 5 (.buildSl 9 1 0 (.cons (.str []) .nil) [])),(mv 6 0),(zo 7 (.app 9 1 16 (.s 5) (.s 6))),(mv 2 7)]) .ret))
theorem e80:aO Tryz.prog 80 g80 [] [] []=some (c80,[.slot 2],8):=by kernel_rfl
def Uq:aK where
 X:=List B
 Y:=Unit
 args:=fun l=>.cons (slE l) .nil
 pre:=fun l=>l.length<=1000000
 h0:=fun _=>[]
 nx0:=0
 post:=fun _ _=>True
 res:=fun l _=>.lsl 0 1 l.length
 h1:=fun l _=>[lsH 0 l]
 nx1:=1
theorem R6:Uq.Ok Tryz.prog 80:=by
 refine Eng.aK.okR e80 .nil (fun _=>[]) (fun _ _=>aD.nil) ?_
 rintro (l:List B) (hn:l.length<=1000000)
 refine ⟨trivial,?_⟩
 repeat' (first|apply And.intro|exact trivial|exact rfl|exact zf|exact zh|refine zt ?_|fail)
 refine Kf (fun (h:0 < l.length->true=false)=>?_) (fun (_:0 < l.length->false=false)=>?_)
 ·have h0:l.length=0:=by
   rcases Nat.eq_zero_or_pos l.length with h'|h'
   ·exact h'
   ·exact Bool.noConfusion (h h')
  repeat' (first|apply And.intro|exact trivial|exact rfl|exact zf|exact zh|refine zt ?_|fail)
  refine Exists.intro () ?_
  repeat' (first|apply And.intro|exact trivial|exact rfl|exact zf|exact zh|refine zt ?_|exact h0|exact h0.symm|fail)
 ·repeat' (first|apply And.intro|exact trivial|exact rfl|exact zf|exact zh|refine zt ?_|fail)
  ·exact fun _ _=>rfl
  ·show l.length<=9223372036854775807
   omega
  ·show l.length * 16<=140737488355328
   omega
  refine Exists.intro () ?_
  repeat' (first|apply And.intro|exact trivial|exact rfl|exact zf|exact zh|refine zt ?_|exact fun (j:Nat) (hj:j < _)=>Or.inl (aL _ _ _ _)|fail)
end T25
end
