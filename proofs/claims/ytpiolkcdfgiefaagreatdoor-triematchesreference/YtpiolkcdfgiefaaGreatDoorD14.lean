/- A part of the proof. -/
import Derived.Test.YtpiolkcdfgiefaaGreatDoorD13
section
set_option maxHeartbeats 10000000
open Go Go.Eng Go.Proofs T1 T2 T3 T4 T5 T10 T11 T12 T13 T14 T16 T17 T18 T19 T26 T31 D12 D13
set_option maxRecDepth 100000
namespace T35
theorem Nh:∀{l m:List B},Srt l->Srt m->(∀x,x∈l↔x∈m)->l=m
 | [],[],_,_,_=>rfl
 | [],y::m,_,_,h=>absurd ((h y).2 aZ) eO
 |x::l,[],_,_,h=>absurd ((h x).1 aZ) eO
 |x::l,y::m,h1,h2,h=>by
  have k1:=aT.1 h1;have k2:=aT.1 h2;have e:x=y:=by
   grind[List.mem_cons_self,V0]
  subst e;refine congrArg (x::·) (Nh k1.2 k2.2 λz=>?_)
  grind[uI]
def No(t i:B)(b:UInt8)(k:TK):Prop:=∃s,dN k b=some s/\gO t i s
mutual
theorem Vi:∀(T T':TT),wfT T->wfT T'->(∀t i,gO t i T↔gO t i T')->T=T'
 |.node ids k,.node ids' k',w,w',h=>by
  simp only[wfT]at w w';have e1:ids=ids':=Nh w.1 w'.1 λi=>by have:=h [] i; grind[oA]
  have e2:k=k':=Nl k k' w.2.1 w'.2.1 w.2.2 w'.2.2 λb t i=>by have:=h (b::t) i; rw[dV,dV]at this; exact this
  rw[e1,e2]
theorem Nl:∀(k k':TK),Sb (cC k)->Sb (cC k')->wfK k->wfK k'->(∀b t i,No t i b k↔No t i b k')->k=k'
 |.nil,.nil,_,_,_,_,_=>rfl
 |.nil,.cons b s r,_,_,_,w',h=>by
  simp only[wfK]at w';obtain⟨t,i,hm⟩:=oR w'.2.1 w'.1;obtain⟨s',e,_⟩:=(h b t i).2 ⟨s,by simp only[dN,if_pos],hm⟩;cases e
 |.cons b s r,.nil,_,_,w,_,h=>by
  simp only[wfK]at w;obtain⟨t,i,hm⟩:=oR w.2.1 w.1;obtain⟨s',e,_⟩:=(h b t i).1 ⟨s,by simp only[dN,if_pos],hm⟩;cases e
 |.cons b s r,.cons b' s' r',hs,hs',w,w',h=>by
  simp only[wfK]at w w';simp only[cC]at hs hs';have p1:=aT.1 hs;have p2:=aT.1 hs';have m1:b∈cC (.cons b' s' r'):=by
   obtain⟨t,i,hm⟩:=oR w.2.1 w.1;obtain⟨x,e,_⟩:=(h b t i).1 ⟨s,by simp only[dN,if_pos],hm⟩;exact mG e
  have m2:b'∈cC (.cons b s r):=by
   obtain⟨t,i,hm⟩:=oR w'.2.1 w'.1;obtain⟨x,e,_⟩:=(h b' t i).2 ⟨s',by simp only[dN,if_pos],hm⟩;exact mG e
  have e:b=b':=by
   grind[cC]
  subst e;have es:s=s':=Vi s s' w.1 w'.1 λt i=>by
   have:=h b t i;simp_all[No,dN,Option.some.injEq,exists_eq_left']
  subst es;have er:r=r':=Nl r r' p1.2 p2.2 w.2.2 w'.2.2 λy t i=>by
   by_cases e:b=y
   .grind [qA,No]
   .have:=h y t i;simp_all[No,dN]
  rw[er]
end
theorem wJ{T:TT}{k:Ky}:pcT T k=0↔kF k.1 k.2=true/\¬gO k.1 k.2 T/\szT T<20000:=by
 rw[<- iY]
 grind[pcT]
theorem Mv:∀(l:List Ky) {T T':TT},tS l T=(0,T')->wfT T->wfT T'/\szT T'=szT T+l.length/\(∀t i,gO t i T'↔gO t i T\/(t,i)∈l)
 | [],T,T',h,w=>by
  cases h;simp[*]
 |k::l,T,T',h,w=>by
  unfold tS at h;by_cases e:pcT T k=0
  .rw [if_pos e]at h;have hz:=wJ.1 e;obtain⟨h1,h2,h3⟩:=Mv l h (sY k.1 w hz.2.1)
   grind[oT,zG]
  grind
theorem Xr{l:List Ky}{T:TT}(h:T19.fK l=(0,T)):wfT T/\szT T=l.length/\∀t i,gO t i T↔(t,i)∈l:=by
 unfold T19.fK at h;by_cases h1:20000<l.length
 .grind
 .rw [if_neg h1]at h;by_cases h2:l.any kM=true
  .grind
  .rw [if_neg h2]at h;obtain⟨a,b,c⟩:=Mv l h oU
   grind[emp,szT,szK,Ey]
def klt(a b:B×B):Prop:=bl a.1 b.1=true\/(a.1=b.1/\bl a.2 b.2=true)
theorem Iu:∀(p:B) {x y:B},bl (p++x) (p++y)=bl x y
 | [],_,_=>rfl
 |b::p,x,y=>by
  rw[gK,gK,Di,Iu p];simp[UInt8.lt_irrefl]
theorem V1(p:B)(b:UInt8)(x:B):bl p (p++b::x)=true:=by
 have:=Iu p (x:=[]) (y:=b::x);rw[eY]at this;rw[this];rfl
theorem Ci{a b c:B×B}(h:klt a b)(k:klt b c):klt a c:=by
 rcases h with h|⟨h1,h2⟩<;>rcases k with k|⟨k1,k2⟩
 .exact .inl (vK h k)
 .exact .inl (k1▸h)
 .exact .inl (h1▸k)
 .exact .inr ⟨h1.trans k1,vK h2 k2⟩
theorem Er{a:B×B}(h:klt a a):False:=by
 rcases h with h|h
 .grind [uI]
 grind[uI]
mutual
theorem nC:∀(T:TT) (p:B),(bB p T).length=szT T
 |.node ids k,p=>by
  simp only[bB,szT,bF,cS];rw[Cg k p]
theorem Cg:∀(k:TK) (p:B),(nO p k).length=szK k
 |.nil,_=>rfl
 |.cons b t r,p=>by
  simp only[nO,szK,bF];rw[nC t,Cg r]
end
mutual
theorem mem_keys:∀(T:TT) (p:B),wfT T->∀t i,(t,i)∈bB p T↔∃s,t=p++s/\gO s i T
 |.node ids k,p,w,t,i=>by
  simp only[wfT]at w;simp only[bB,bT];rw[qF k p w.2.1 w.2.2];constructor
  .rintro (h|⟨b,s,e,h⟩)
   .simp_all [List.mem_map,oA]
   .exact ⟨b::s,e,dV.2 h⟩
  .rintro ⟨s,e,h⟩;cases s with
   |nil =>
    rw[eY]at e;subst e;exact .inl (cD.2 ⟨i,oA.1 h,rfl⟩)
   |cons b s=>exact .inr ⟨b,s,e,dV.1 h⟩
theorem qF:∀(k:TK) (p:B),Sb (cC k)->wfK k->∀t i,(t,i)∈nO p k↔∃b s,t=p++b::s/\No s i b k
 |.nil,p,_,_,t,i=>by
  simp only[nO];constructor
  .simp
  .rintro ⟨b,s,_,u,e,_⟩; cases e
 |.cons b u r,p,hs,w,t,i=>by
  simp only[wfK]at w;simp only[cC]at hs;have p1:=aT.1 hs;simp only[nO,bT];rw[mem_keys u _ w.1,qF r p p1.2 w.2.2];constructor
  .rintro (⟨s,e,h⟩|⟨y,s,e,v,hg,h⟩)
   .exact ⟨b,s,by simp[*],u,by simp only[dN,if_pos],h⟩
   .refine ⟨y,s,e,v,?_,h⟩;simp only[dN];rw[if_neg]
    .exact hg
    .rintro rfl;exact gZ _ (p1.1 _ (mG hg))
  .rintro ⟨y,s,e,v,hg,h⟩;simp only[dN]at hg;by_cases ey:b=y
   .grind
   .rw [if_neg ey]at hg;exact .inr ⟨y,s,e,v,hg,h⟩
end
mutual
theorem sK:∀(T:TT) (p:B),wfT T->(bB p T).Pairwise klt
 |.node ids k,p,w=>by
  simp only[wfT]at w;simp only[bB];refine gG.2 ⟨List.pairwise_map.2 (kV (λh=>.inr ⟨rfl,h⟩) w.1),Ch k p w.2.1 w.2.2,?_⟩;intro a ha b hb;obtain⟨i,_,rfl⟩:=cD.1 ha;obtain⟨t,j⟩:=b;obtain⟨y,s,e,_⟩:=(qF k p w.2.1 w.2.2 t j).1 hb;refine .inl ?_;simp_all[bl,V1]
theorem Ch:∀(k:TK) (p:B),Sb (cC k)->wfK k->(nO p k).Pairwise klt
 |.nil,_,_,_=>.nil
 |.cons b u r,p,hs,w=>by
  simp only[wfK]at w;simp only[cC]at hs;have p1:=aT.1 hs;simp only[nO];refine gG.2 ⟨sK u _ w.1,Ch r p p1.2 w.2.2,?_⟩;rintro⟨t,i⟩ ha ⟨t',i'⟩ hb;obtain⟨s,e,_⟩:=(mem_keys u _ w.1 t i).1 ha;obtain⟨y,s',e',v,hg,_⟩:=(qF r p p1.2 w.2.2 t' i').1 hb;refine .inl ?_;simp_all[bl,List.append_assoc,Iu,Dj,mG]
end
end T35
end
section
set_option maxHeartbeats 10000000
open Go Go.Eng Go.Proofs T1 T2 T3 T4 T5 T11 T12 T13 T14 T17 T18 T19 T23 T26 T31 T33 D3 D6 D9 D11 D12 D13 T30 T25 T35
set_option maxRecDepth 100000
namespace D14
theorem Yw{P:Program}{f:Nat}{S S':bC}(h:S.Ok P f)(e0:S'.nx0=S.nx0)(e1:S'.nx1=S.nx1)(ef:S'.fresh=S.fresh)
  (H:∀x',S'.pre x'->∃x,S.pre x/\S'.args x'=S.args x/\S'.h0 x'=S.h0 x/\∀y,S.post x y->∃y',S'.post x' y'/\S'.res x' y'=S.res x y/\S'.h1 x' y'=S.h1 x y):S'.Ok P f:=by
 refine⟨h.call,?_⟩;intro x' w μ vs T U hU hg hh hpr hR;obtain⟨x,k1,k2,k3,k4⟩:=H x' hpr;rw[e0]at hg hh hR;rw[k3]at hh hR;rw[k2]at hR;refine(h.does x w μ vs T U hU hg hh k1 hR).mono ?_
 grind
structure UX where
 T:TT
 N:Nat->NO
 c:Nat
 r:Nat
 K:Int
 p:B
structure UOk(x:UX):Prop where
 tr:Tr Dd x.T x.N x.c x.r x.K
 sz:szT x.T<=24
 ln:x.p.length<=1000000
def aFw:bC where
 X:=UX
 Y:=Nat->NO
 args:=λ_=>.cons (.own 0 0) .nil
 pre:=UOk
 h0:=λx=>tH 0 1 x.r x.N
 nx0:=2
 post:=λx y=>Tr Dd x.T y x.c x.r x.K
 res:=λx _=>.str (iK Dd x.T)
 h1:=λx y=>tH 0 1 x.r y
 nx1:=2
theorem aDf:aFw.Ok Tryz.prog 23:=by
 refine Yw X9 rfl rfl rfl ?_;rintro x ⟨h1,h2,_⟩;obtain⟨F,hd,hF⟩:=h1.dok h2;exact⟨⟨x.N,x.T,x.r,F⟩,hd,rfl,rfl,λy hy=>⟨y,h1.mark hF hy,rfl,rfl⟩⟩
def aFe:bC where
 X:=UX
 Y:=(Nat->NO)×ND×Bool
 args:=λx=>.cons (.own 0 0) (.cons (.str x.p) .nil)
 pre:=UOk
 h0:=λx=>tH 0 1 x.r x.N
 nx0:=2
 post:=λx y=>Tr Dd x.T y.1 x.c x.r x.K/\y.2.1=ndO (bV x.p x.T)/\y.2.2=(bV x.p x.T).isSome
 res:=λ_ y=>.tup (.cons (.agg (.cons (.lsl 2 1 y.2.1.ids.length) (.cons (.str y.2.1.bys) (.cons (.lsl 3 1 y.2.1.kids.length) .nil)))) (.cons (.bool y.2.2) .nil))
 h1:=λx y=>lsH 3 y.2.1.kids::lsH 2 y.2.1.ids::tH 0 1 x.r y.1
 nx1:=4
theorem aCs:aFe.Ok Tryz.prog 25:=by
 refine Yw Mx rfl rfl rfl ?_;rintro x ⟨h1,h2,h3⟩;obtain⟨F,hd,hF⟩:=h1.dok h2;exact⟨⟨⟨x.N,x.T,x.r,F⟩,x.c,x.p⟩,⟨hd,h1.ok.cl,h3⟩,rfl,rfl,λy hy=>⟨y,⟨h1.mark hF hy.1,hy.2⟩,rfl,rfl⟩⟩
def aE3:bC where
 X:=UX
 Y:=List Ky
 args:=λ_=>.cons (.own 0 0) .nil
 pre:=UOk
 h0:=λx=>tH 0 1 x.r x.N
 nx0:=2
 post:=λx y=>y=bB [] x.T
 res:=λ_ y=>.lsl 2 2 y.length
 h1:=λx y=>(2,.arr 32 2 y.length (kyE y))::tH 0 1 x.r x.N
 nx1:=3
theorem aCe:aE3.Ok Tryz.prog 16:=by
 refine Yw Ml rfl rfl rfl ?_;rintro x ⟨h1,h2,_⟩;exact⟨⟨x.N,x.T,x.r,[]⟩,⟨h1.aok h2,by grind[nC],rfl⟩,rfl,rfl,λ_ _=>⟨_,rfl,rfl,rfl⟩⟩
end D14
end
