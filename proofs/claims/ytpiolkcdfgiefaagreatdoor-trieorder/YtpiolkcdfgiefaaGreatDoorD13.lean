/- A part of the proof. -/
import Derived.Test.YtpiolkcdfgiefaaGreatDoorD11
import Derived.Test.YtpiolkcdfgiefaaGreatDoorT50
section
open Go Go.Eng Go.Proofs L1 L2 L3 L4 L5 L6 L8 L9 T1 T2 T3 T4 T5 T6 T7 T8 T9 T10 T11 T12 T13 T14 T17 T18 T19 T23 T25 T28 T30 T31 D3 D6 D9 D10 D11
set_option maxRecDepth 100000
namespace D12
theorem Cp {N N':Nat->NO} (h:Mk N N') {i:Nat} (hn:isNode N i):isNode N' i:=by
 obtain ⟨a,n,m,sz,mk,e⟩:=hn;rcases h i with f|⟨_,_,_,_,_,_,_,f⟩
 ·exact ⟨_,_,_,_,_,f.trans e⟩
 ·exact ⟨_,_,_,_,_,f⟩
theorem uC {N N':Nat->NO} (h:Mk N N') {i a n m:Nat} {sz:Int} {mk:B} (e:N' i=.node a n m sz mk):∃ mk',N i=.node a n m sz mk':=by
 rcases h i with f|⟨_,_,_,_,_,_,e2,f⟩
 ·exact ⟨_,f.symm.trans e⟩
 ·rw [f] at e; cases e; exact ⟨_,e2⟩
theorem wU {N N':Nat->NO} (h:Mk N N') {i:Nat} {o:NO} (hi:N i=o) (ho:∀ a n m sz mk,o≠.node a n m sz mk):N' i=o:=by
 rcases h i with f|⟨_,_,_,_,_,_,e2,f⟩
 ·exact f.trans hi
 ·exact absurd (hi.symm.trans e2) (ho _ _ _ _ _)
theorem Oo {N N':Nat->NO} (h:Mk N N') {i:Nat} {o:NO} (hi:N' i=o) (ho:∀ a n m sz mk,o≠.node a n m sz mk):N i=o:=by
 rcases h i with f|⟨_,_,_,_,_,_,e2,f⟩
 ·exact f.symm.trans hi
 ·exact absurd (hi.symm.trans f) (ho _ _ _ _ _)
theorem aA4 {N N':Nat->NO} {c:Nat} (h:Mk N N') (k:Cl N c):Cl N' c:=by
 refine ⟨fun i hi=>?_,fun i a n m sz mk e=>?_,fun i l q e x hx=>?_,fun i a n m sz mk e=>?_,fun i a n m sz mk e=>?_,fun i j a n m sz mk n' m' sz' mk' e e'=>?_,h.tk k.tick⟩
 ·exact wU h (k.free i hi) fun _ _ _ _ _ e=>by cases e
 ·obtain ⟨mk',e1⟩:=uC h e;obtain ⟨l,q,e2⟩:=k.kids _ _ _ _ _ _ e1;exact ⟨l,q,wU h e2 fun _ _ _ _ _ e=>by cases e⟩
 ·have e1:=Oo h e fun _ _ _ _ _ e=>by cases e
  obtain ⟨h1,h2⟩:=k.ent i l q e1 x hx;exact ⟨h1,Cp h h2⟩
 ·obtain ⟨mk',e1⟩:=uC h e;rcases k.lst _ _ _ _ _ _ e1 with ⟨h1,h2⟩|⟨A,h1,h2⟩
  ·exact .inl ⟨wU h h1 (fun _ _ _ _ _ e=>by cases e),h2⟩
  ·exact .inr ⟨A,wU h h1 (fun _ _ _ _ _ e=>by cases e),h2⟩
 ·obtain ⟨mk',e1⟩:=uC h e;exact k.lim _ _ _ _ _ _ e1
 ·obtain ⟨mk1,e1⟩:=uC h e;obtain ⟨mk2,e2⟩:=uC h e';exact k.own _ _ _ _ _ _ _ _ _ _ _ e1 e2
theorem aA5 {N N':Nat->NO} {c r:Nat} {K:Int} (h:Mk N N') (k:T8.Ok ⟨N,c,r⟩ K):T8.Ok ⟨N',c,r⟩ K:=by
 refine ⟨aA4 h k.cl,Cp h k.nd,fun i a n m sz mk e=>?_⟩;obtain ⟨mk',e1⟩:=uC h e;exact k.bd _ _ _ _ _ _ e1
theorem _root_.T18.Tr.mark {T:TT} {N N2:Nat->NO} {c r:Nat} {K:Int} {F:Nat->Prop} (h:Tr Dd T N c r K) (hF:∀ z,F z->z < c) (hp:DPo ⟨N,T,r,F⟩ N2):Tr Dd T N2 c r K :=
 ⟨⟨F,hp.rep,hF⟩,aA5 hp.mrk h.ok,h.wf,h.val,h.sz⟩
mutual
theorem rF:∀ {T:TT},0 < szT T->wfT T->∃ t i,jS t i T
 | .node ids k,h,w=>by
  cases ids with
  | cons i r=>exact ⟨[],i,_,rfl,aQ⟩
  | nil =>
   simp only [szT,dA,aW] at h;simp only [wfT] at w;obtain ⟨b,s,t,i,hg,hm⟩:=O5 h w.2.2;obtain ⟨u,h1,h2⟩:=hm;exact ⟨b::t,i,u,by simp only [gG,hg,eQ,h1],h2⟩
theorem O5:∀ {k:TK},0 < szK k->wfK k->∃ b s t i,eW k b=some s/\jS t i s
 | .nil,h,_=>absurd h (fE _)
 | .cons b s r,_,w=>by
  simp only [wfK] at w;obtain ⟨t,i,hm⟩:=rF w.2.1 w.1;exact ⟨b,s,t,i,by simp only [eW,if_pos],hm⟩
end
def Pl (n:Nat) (t i:B):Prop:=(∀ b∈t,b.toNat < 128)/\t.length<=n/\i.length<=1000000
theorem Uy {ids:List B} {k:TK} {b:UInt8} {s:TT} {t i:B} (hs:Sb (dF k)) (h:(b,s)∈eB k) (hm:jS t i s):jS (b::t) i (.node ids k):=by
 obtain ⟨u,h1,h2⟩:=hm;exact ⟨u,by simp only [gG,wJ hs h,eQ,h1],h2⟩
mutual
theorem Gc:∀ (T:TT) (n:Nat),wfT T->(∀ t i,jS t i T->Pl n t i)->G3 T/\shT T/\htT T<=n+1
 | .node ids k,n,w,h=>by
  simp only [wfT] at w;obtain ⟨h1,h2,h3⟩:=Qn k n w.2.2 fun b s hbs t i hm=>h _ _ (Uy w.2.1 hbs hm);refine ⟨h1,⟨fun i hi=>(h [] i ⟨_,rfl,hi⟩).2.2,h2⟩,?_⟩;simp only [htT];omega
theorem Qn:∀ (k:TK) (n:Nat),wfK k->(∀ b s,(b,s)∈eB k->∀ t i,jS t i s->Pl n (b::t) i)->Jz k/\shK k/\htK k<=n
 | .nil,_,_,_=>⟨trivial,trivial,bB _⟩
 | .cons b s r,n,w,h=>by
  simp only [wfK] at w;obtain ⟨t,i,hm⟩:=rF w.2.1 w.1;have h0:=h b s aQ t i hm;obtain ⟨m,rfl⟩:∃ m,n=m+1:=⟨n - 1,by have:=h0.2.1; simp only [aY] at this; omega⟩;obtain ⟨h1,h2,h3⟩:=Gc s m w.1 fun t i hm=>by
   obtain ⟨a1,a2,a3⟩:=h b s aQ t i hm;exact ⟨fun x hx=>a1 x (aK _ hx),by simp only [aY] at a2; omega,a3⟩
  obtain ⟨h4,h5,h6⟩:=Qn r (m+1) w.2.2 fun b' s' hb=>h b' s' (aK _ hb);exact ⟨⟨h0.1 b aQ,h1,h4⟩,⟨h2,h5⟩,Nat.max_le.2 ⟨h3,h6⟩⟩
end
theorem Yv {t i:B} (h:nN t i=true):Pl 120 t i:=by
 unfold nN at h;simp only [aO,decide_eq_true_eq,fI] at h;obtain ⟨h1,h2,h3⟩:=h;refine ⟨fun b hb=>?_,h2,?_⟩
 ·have:=h1 b hb;unfold okB at this;simp at this;omega
 ·unfold idV mH at h3;by_cases e:20000 < i.length
  ·rw [if_pos e] at h3;simp at h3
  ·omega
theorem _root_.T18.Tr.facts {D:Dg} {T:TT} {N:Nat->NO} {c r:Nat} {K:Int} (h:Tr D T N c r K):G3 T/\shT T/\htT T<=121:=Gc T 120 h.wf fun t i hm=>Yv (h.val t i hm)
theorem _root_.T18.Tr.dok {T:TT} {N:Nat->NO} {c r:Nat} {K:Int} (h:Tr Dd T N c r K) (hs:szT T<=24):∃ F,DOk (htT T) ⟨N,T,r,F⟩/\∀ z,F z->z < c:=by
 obtain ⟨F,h1,h2⟩:=h.rep;exact ⟨F,⟨h1,h.wf,hs,h.ok.cl.tick,h.facts.1,aL _,h.facts.2.1⟩,h2⟩
theorem _root_.T18.Tr.aok {D:Dg} {T:TT} {N:Nat->NO} {c r:Nat} {K:Int} (h:Tr D T N c r K) (hs:szT T<=24):AOk (htT T) ⟨N,T,r,[]⟩:=by
 obtain ⟨F,h1,h2⟩:=h.rep;have:=h.facts.2.2;exact ⟨⟨D,F,h1⟩,h.wf,hs,h.ok.cl.tick,h.facts.1,aL _,by simp only [dA]; omega⟩
end D12
end
section
open Go Go.Eng Go.Proofs T1 T2 T3 T4 T5 T6 T7 T8 T9 T11 T12 T13 T14 T17 T18 T19 T20 T26 D9 D10 D11 D12
set_option maxRecDepth 100000
namespace D13
def via (S:bU) {X' Y':Type} (g:X'->S.X) (pre':X'->Prop) (post':X'->Y'->Prop) (res':X'->Y'->SV) (h1':X'->Y'->List (Nat×aT)):bU :=
 { X:=X',Y:=Y',args:=fun x=>S.args (g x),pre:=pre',h0:=fun x=>S.h0 (g x),nx0:=S.nx0,post:=post',res:=res',h1:=h1',nx1:=S.nx1,fresh:=S.fresh }
theorem S7 {P:Program} {f:Nat} {S:bU} (h:S.Ok P f) {X' Y':Type} {g:X'->S.X} {pre':X'->Prop} {post':X'->Y'->Prop} {res':X'->Y'->SV} {h1':X'->Y'->List (Nat×aT)}
  (hp:∀ x,pre' x->S.pre (g x)) (hy:∀ x y,pre' x->S.post (g x) y->∃ y',post' x y'/\res' x y'=S.res (g x) y/\h1' x y'=S.h1 (g x) y):(via S g pre' post' res' h1').Ok P f:=by
 refine ⟨h.call,?_⟩;intro x w μ vs T U hU hg hh hpr hR;refine (h.does (g x) w μ vs T U hU hg hh (hp x hpr) hR).mono ?_;intro e w' he;cases e with
 | returned v =>
  obtain ⟨y,μ',h1,h2,h3,h4⟩:=he;obtain ⟨y',k1,k2,k3⟩:=hy x y hpr h1;refine ⟨y',μ',k1,?_,?_,h4⟩
  ·show bO _ μ' (h1' x y') S.nx1 w';rw [k3];exact h2
  ·show R (aN _ μ' (h1' x y') w') (res' x y') [v];rw [k2,k3];exact h3
 | panicked c=>exact he.elim
 | outgrown=>exact he.elim
structure PX where
 T:TT
 N:Nat->NO
 c:Nat
 r:Nat
 K:Int
 k:Ky
structure POk (x:PX):Prop where
 tr:Tr Dd x.T x.N x.c x.r x.K
 k0:0<=x.K
 k1:x.K<=1000000000000
 len:x.k.1.length < 4611686018427387904
def dcT (T:TT) (k:Ky):Int:=bif Bt T k.1 k.2 then 0 else 10
def ptS:bU:=via R5 (X':=PX) (Y':=(Nat->NO)×Nat×Int) (fun x=>HX.mk true x.N x.c x.r x.k.1 x.k.2) POk
 (fun x y=>Tr Dd (oB x.T x.k) y.1 y.2.1 x.r (x.K+1000)/\y.2.2=pcT x.T x.k) (fun _ y=>.int .i64 y.2.2) (fun x y=>tH 0 1 x.r y.1)
theorem Wn:ptS.Ok Tryz.prog 15:=by
 refine S7 Kg (fun x h=>h.tr.E5 h.k1 h.len) fun x y h hy=>?_;exact ⟨(sL ⟨true,x.N,x.c,x.r,x.k.1,x.k.2⟩ y,putc ⟨true,x.N,x.c,x.r,x.k.1,x.k.2⟩,rC ⟨true,x.N,x.c,x.r,x.k.1,x.k.2⟩),⟨h.tr.put1 h.k0 x.k hy,h.tr.code⟩,rfl,rfl⟩
def dtS:bU:=via Lo (X':=PX) (Y':=(Nat->NO)×Int) (fun x=>HX.mk false x.N x.c x.r x.k.1 x.k.2) POk
 (fun x y=>Tr Dd (sE x.T x.k) y.1 x.c x.r (x.K+1000)/\y.2=dcT x.T x.k) (fun _ y=>.int .i64 y.2) (fun x y=>tH 0 1 x.r y.1)
theorem aAe:dtS.Ok Tryz.prog 14:=by
 refine S7 Lp (fun x h=>h.tr.F8 h.k1 h.len) fun x y h hy=>?_;refine ⟨(nO ⟨false,x.N,x.c,x.r,x.k.1,x.k.2⟩,yX ⟨false,x.N,x.c,x.r,x.k.1,x.k.2⟩),⟨h.tr.drop1 h.k0 x.k,?_⟩,rfl,rfl⟩;show yX _=dcT _ _;unfold yX dcT;have e:HX.has ⟨false,x.N,x.c,x.r,x.k.1,x.k.2⟩=Bt x.T x.k.1 x.k.2:=by rw [cA,h.tr.has,pL]
 rw [e]
end D13
end
