/- A part of the proof. -/
import Derived.Test.YtpiolkcdfgiefaaGreatDoorD13
section
open Go Go.Eng Go.Proofs T1 T2 T3 T4 T5 T10 T11 T12 T13 T14 T16 T17 T18 T19 T26 T31 D12 D13
set_option maxRecDepth 100000
namespace T35
theorem M4:∀ {l m:List B},Srt l->Srt m->(∀ x,x∈l ↔ x∈m)->l=m
 | [],[],_,_,_=>rfl
 | [],y::m,_,_,h=>absurd ((h y).2 aQ) iO
 | x::l,[],_,_,h=>absurd ((h x).1 aQ) iO
 | x::l,y::m,h1,h2,h=>by
  have k1:=bD.1 h1;have k2:=bD.1 h2;have e:x=y:=by
   rcases aI.1 ((h x).1 aQ) with e|e
   ·exact e
   ·rcases aI.1 ((h y).2 aQ) with f|f
    ·exact f.symm
    ·have a:=k2.1 _ e;have b:=k1.1 _ f;rw [Tn a] at b;cases b
  subst e;refine congrArg (x::·) (M4 k1.2 k2.2 fun z=>?_);constructor
  ·intro hz;rcases aI.1 ((h z).1 (aK _ hz)) with e|e
   ·subst e; have:=k1.1 _ hz; rw [vB] at this; cases this
   ·exact e
  ·intro hz;rcases aI.1 ((h z).2 (aK _ hz)) with e|e
   ·subst e; have:=k2.1 _ hz; rw [vB] at this; cases this
   ·exact e
def M9 (t i:B) (b:UInt8) (k:TK):Prop:=∃ s,eW k b=some s/\jS t i s
mutual
theorem K7:∀ (T T':TT),wfT T->wfT T'->(∀ t i,jS t i T ↔ jS t i T')->T=T'
 | .node ids k,.node ids' k',w,w',h=>by
  simp only [wfT] at w w';have e1:ids=ids':=M4 w.1 w'.1 fun i=>by have:=h [] i; rw [kV,kV] at this; exact this
  have e2:k=k':=M7 k k' w.2.1 w'.2.1 w.2.2 w'.2.2 fun b t i=>by have:=h (b::t) i; rw [eR,eR] at this; exact this
  rw [e1,e2]
theorem M7:∀ (k k':TK),Sb (dF k)->Sb (dF k')->wfK k->wfK k'->(∀ b t i,M9 t i b k ↔ M9 t i b k')->k=k'
 | .nil,.nil,_,_,_,_,_=>rfl
 | .nil,.cons b s r,_,_,_,w',h=>by
  simp only [wfK] at w';obtain ⟨t,i,hm⟩:=rF w'.2.1 w'.1;obtain ⟨s',e,_⟩:=(h b t i).2 ⟨s,by simp only [eW,if_pos],hm⟩;cases e
 | .cons b s r,.nil,_,_,w,_,h=>by
  simp only [wfK] at w;obtain ⟨t,i,hm⟩:=rF w.2.1 w.1;obtain ⟨s',e,_⟩:=(h b t i).1 ⟨s,by simp only [eW,if_pos],hm⟩;cases e
 | .cons b s r,.cons b' s' r',hs,hs',w,w',h=>by
  simp only [wfK] at w w';simp only [dF] at hs hs';have p1:=bD.1 hs;have p2:=bD.1 hs';have m1:b∈dF (.cons b' s' r'):=by
   obtain ⟨t,i,hm⟩:=rF w.2.1 w.1;obtain ⟨x,e,_⟩:=(h b t i).1 ⟨s,by simp only [eW,if_pos],hm⟩;exact nK e
  have m2:b'∈dF (.cons b s r):=by
   obtain ⟨t,i,hm⟩:=rF w'.2.1 w'.1;obtain ⟨x,e,_⟩:=(h b' t i).2 ⟨s',by simp only [eW,if_pos],hm⟩;exact nK e
  have e:b=b':=by
   simp only [dF,aI] at m1 m2;rcases m1 with e|e
   ·exact e
   ·rcases m2 with f|f
    ·exact f.symm
    ·exact absurd (p1.1 _ f) (Ev (p2.1 _ e))
  subst e;have es:s=s':=K7 s s' w.1 w'.1 fun t i=>by
   have:=h b t i;unfold M9 at this;simp only [eW,if_true,aJ,exists_eq_left'] at this;exact this
  subst es;have er:r=r':=M7 r r' p1.2 p2.2 w.2.2 w'.2.2 fun y t i=>by
   by_cases e:b=y
   ·subst e;have n1:eW r b=none:=qW fun hm=>eI _ (p1.1 _ hm);have n2:eW r' b=none:=qW fun hm=>eI _ (p2.1 _ hm);unfold M9;rw [n1,n2]
   ·have:=h y t i;unfold M9 at this ⊢;simp only [eW,if_neg e] at this;exact this
  rw [er]
end
theorem zV {T:TT} {k:Ky}:pcT T k=0 ↔ nN k.1 k.2=true/\¬ jS k.1 k.2 T/\szT T < 20000:=by
 rw [<- pL];unfold pcT;cases h1:nN k.1 k.2 <;> cases h2:Bt T k.1 k.2 <;> cases h3:decide (20000<=szT T) <;> simp_all <;> omega
theorem Mq:∀ (l:List Ky) {T T':TT},A7 l T=(0,T')->wfT T->wfT T'/\szT T'=szT T+l.length/\(∀ t i,jS t i T' ↔ jS t i T\/(t,i)∈l)
 | [],T,T',h,w=>by
  cases h;exact ⟨w,rfl,fun t i=>by simp⟩
 | k::l,T,T',h,w=>by
  unfold A7 at h;by_cases e:pcT T k=0
  ·rw [if_pos e] at h;have hz:=zV.1 e;obtain ⟨h1,h2,h3⟩:=Mq l h (yO k.1 w hz.2.1);refine ⟨h1,?_,fun t i=>?_⟩
   ·rw [h2,oK k.1 w,aY]; omega
   ·rw [h3,uA k.1 w,aI];obtain ⟨a,b⟩:=k;simp only [cD];constructor
    ·rintro ((h|h)|h)
     ·exact .inr (.inl h)
     ·exact .inl h
     ·exact .inr (.inr h)
    ·rintro (h|h|h)
     ·exact .inl (.inr h)
     ·exact .inl (.inl h)
     ·exact .inr h
  ·rw [if_neg e] at h;injection h with h1 _;exact absurd h1 e
theorem Mr {l:List Ky} {T:TT} (h:T19.iJ l=(0,T)):wfT T/\szT T=l.length/\∀ t i,jS t i T ↔ (t,i)∈l:=by
 unfold T19.iJ at h;by_cases h1:20000 < l.length
 ·rw [if_pos h1] at h; cases h
 ·rw [if_neg h1] at h;by_cases h2:l.any pG=true
  ·rw [if_pos h2] at h; cases h
  ·rw [if_neg h2] at h;obtain ⟨a,b,c⟩:=Mq l h sB;refine ⟨a,by rw [b]; simp [emp,szT,szK],fun t i=>?_⟩;rw [c];constructor
   ·rintro (h|h)
    ·exact absurd h wS
    ·exact h
   ·exact .inr
def klt (a b:B×B):Prop:=bl a.1 b.1=true\/(a.1=b.1/\bl a.2 b.2=true)
theorem It:∀ (p:B) {x y:B},bl (p++x) (p++y)=bl x y
 | [],_,_=>rfl
 | b::p,x,y=>by
  rw [fJ,fJ,Dl,It p];simp [UInt8.lt_irrefl]
theorem To (p:B) (b:UInt8) (x:B):bl p (p++b::x)=true:=by
 have:=It p (x:=[]) (y:=b::x);rw [fX] at this;rw [this];rfl
theorem Us {a:B×B} (h:klt a a):False:=by
 rcases h with h|h
 ·rw [vB] at h; cases h
 ·rw [vB] at h; cases h.2
mutual
theorem wP:∀ (T:TT) (p:B),(eJ p T).length=szT T
 | .node ids k,p=>by
  simp only [eJ,szT,aV,cO];rw [Ci k p]
theorem Ci:∀ (k:TK) (p:B),(tC p k).length=szK k
 | .nil,_=>rfl
 | .cons b t r,p=>by
  simp only [tC,szK,aV];rw [wP t,Ci r]
end
mutual
theorem mem_keys:∀ (T:TT) (p:B),wfT T->∀ t i,(t,i)∈eJ p T ↔ ∃ s,t=p++s/\jS s i T
 | .node ids k,p,w,t,i=>by
  simp only [wfT] at w;simp only [eJ,bM];rw [uB k p w.2.1 w.2.2];constructor
  ·rintro (h|⟨b,s,e,h⟩)
   ·obtain ⟨j,hj,e⟩:=bF.1 h;cases e;exact ⟨[],(fX _).symm,kV.2 hj⟩
   ·exact ⟨b::s,e,eR.2 h⟩
  ·rintro ⟨s,e,h⟩;cases s with
   | nil =>
    rw [fX] at e;subst e;exact .inl (bF.2 ⟨i,kV.1 h,rfl⟩)
   | cons b s=>exact .inr ⟨b,s,e,eR.1 h⟩
theorem uB:∀ (k:TK) (p:B),Sb (dF k)->wfK k->∀ t i,(t,i)∈tC p k ↔ ∃ b s,t=p++b::s/\M9 s i b k
 | .nil,p,_,_,t,i=>by
  simp only [tC];constructor
  ·intro h; cases h
  ·rintro ⟨b,s,_,u,e,_⟩; cases e
 | .cons b u r,p,hs,w,t,i=>by
  simp only [wfK] at w;simp only [dF] at hs;have p1:=bD.1 hs;simp only [tC,bM];rw [mem_keys u _ w.1,uB r p p1.2 w.2.2];constructor
  ·rintro (⟨s,e,h⟩|⟨y,s,e,v,hg,h⟩)
   ·exact ⟨b,s,by rw [e,cP]; rfl,u,by simp only [eW,if_pos],h⟩
   ·refine ⟨y,s,e,v,?_,h⟩;simp only [eW];rw [if_neg]
    ·exact hg
    ·rintro rfl;exact eI _ (p1.1 _ (nK hg))
  ·rintro ⟨y,s,e,v,hg,h⟩;simp only [eW] at hg;by_cases ey:b=y
   ·subst ey;rw [if_pos rfl] at hg;cases hg;exact .inl ⟨s,by rw [e,cP]; rfl,h⟩
   ·rw [if_neg ey] at hg;exact .inr ⟨y,s,e,v,hg,h⟩
end
mutual
theorem Gr:∀ (T:TT) (p:B),wfT T->(eJ p T).Pairwise klt
 | .node ids k,p,w=>by
  simp only [wfT] at w;simp only [eJ];refine kN.2 ⟨List.pairwise_map.2 (jV (fun h=>.inr ⟨rfl,h⟩) w.1),Cj k p w.2.1 w.2.2,?_⟩;intro a ha b hb;obtain ⟨i,_,rfl⟩:=bF.1 ha;obtain ⟨t,j⟩:=b;obtain ⟨y,s,e,_⟩:=(uB k p w.2.1 w.2.2 t j).1 hb;refine .inl ?_;show bl p t=true;rw [e];exact To p y s
theorem Cj:∀ (k:TK) (p:B),Sb (dF k)->wfK k->(tC p k).Pairwise klt
 | .nil,_,_,_=>.nil
 | .cons b u r,p,hs,w=>by
  simp only [wfK] at w;simp only [dF] at hs;have p1:=bD.1 hs;simp only [tC];refine kN.2 ⟨Gr u _ w.1,Cj r p p1.2 w.2.2,?_⟩;rintro ⟨t,i⟩ ha ⟨t',i'⟩ hb;obtain ⟨s,e,_⟩:=(mem_keys u _ w.1 t i).1 ha;obtain ⟨y,s',e',v,hg,_⟩:=(uB r p p1.2 w.2.2 t' i').1 hb;refine .inl ?_;show bl t t'=true;rw [e,e',cP,It];exact Dm.2 (.inl (p1.1 _ (nK hg)))
end
end T35
end
section
open Go Go.Eng Go.Proofs T1 T2 T3 T4 T5 T11 T12 T13 T14 T17 T18 T19 T23 T26 T31 T33 D3 D6 D9 D11 D12 D13 T30 T25 T35
set_option maxRecDepth 100000
namespace D14
theorem aBu {P:Program} {f:Nat} {S S':bU} (h:S.Ok P f) (e0:S'.nx0=S.nx0) (e1:S'.nx1=S.nx1) (ef:S'.fresh=S.fresh)
  (H:∀ x',S'.pre x'->∃ x,S.pre x/\S'.args x'=S.args x/\S'.h0 x'=S.h0 x/\∀ y,S.post x y->∃ y',S'.post x' y'/\S'.res x' y'=S.res x y/\S'.h1 x' y'=S.h1 x y):S'.Ok P f:=by
 refine ⟨h.call,?_⟩;intro x' w μ vs T U hU hg hh hpr hR;obtain ⟨x,k1,k2,k3,k4⟩:=H x' hpr;rw [e0] at hg hh hR;rw [k3] at hh hR;rw [k2] at hR;refine (h.does x w μ vs T U hU hg hh k1 hR).mono ?_;intro e w' he;cases e with
 | returned v =>
  obtain ⟨y,μ',h1,h2,h3,h4⟩:=he;obtain ⟨y',j1,j2,j3⟩:=k4 y h1;refine ⟨y',μ',j1,?_,?_,h4⟩
  ·rw [e0,e1,ef,j3];exact h2
  ·rw [e0,ef,j2,j3];exact h3
 | panicked c=>exact he.elim
 | outgrown=>exact he.elim
structure UX where
 T:TT
 N:Nat->NO
 c:Nat
 r:Nat
 K:Int
 p:B
structure UOk (x:UX):Prop where
 tr:Tr Dd x.T x.N x.c x.r x.K
 sz:szT x.T<=24
 ln:x.p.length<=1000000
def aBi:bU where
 X:=UX
 Y:=Nat->NO
 args:=fun _=>.cons (.own 0 0) .nil
 pre:=UOk
 h0:=fun x=>tH 0 1 x.r x.N
 nx0:=2
 post:=fun x y=>Tr Dd x.T y x.c x.r x.K
 res:=fun x _=>.str (pH Dd x.T)
 h1:=fun x y=>tH 0 1 x.r y
 nx1:=2
theorem Zh:aBi.Ok Tryz.prog 23:=by
 refine aBu Ve rfl rfl rfl ?_;rintro x ⟨h1,h2,_⟩;obtain ⟨F,hd,hF⟩:=h1.dok h2;exact ⟨⟨x.N,x.T,x.r,F⟩,hd,rfl,rfl,fun y hy=>⟨y,h1.mark hF hy,rfl,rfl⟩⟩
def aAx:bU where
 X:=UX
 Y:=List Ky
 args:=fun _=>.cons (.own 0 0) .nil
 pre:=UOk
 h0:=fun x=>tH 0 1 x.r x.N
 nx0:=2
 post:=fun x y=>y=eJ [] x.T
 res:=fun _ y=>.lsl 2 2 y.length
 h1:=fun x y=>(2,.arr 32 2 y.length (kyE y))::tH 0 1 x.r x.N
 nx1:=3
theorem Yy:aAx.Ok Tryz.prog 16:=by
 refine aBu Mg rfl rfl rfl ?_;rintro x ⟨h1,h2,_⟩;exact ⟨⟨x.N,x.T,x.r,[]⟩,⟨h1.aok h2,by rw [wP]; exact bC h2 (by decide),rfl⟩,rfl,rfl,fun _ _=>⟨_,rfl,rfl,rfl⟩⟩
end D14
end
