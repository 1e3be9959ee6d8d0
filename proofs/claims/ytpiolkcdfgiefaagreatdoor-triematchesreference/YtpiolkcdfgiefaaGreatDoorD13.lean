/- A part of the proof. -/
import Derived.Test.YtpiolkcdfgiefaaGreatDoorD10
import Derived.Test.YtpiolkcdfgiefaaGreatDoorT28
section
set_option maxHeartbeats 10000000
open Go Go.Eng Go.Proofs T1 T2 T3 T4 T5 T6 T7 T8 T13 T14 T17 T23 T25 T28 T30 T31 D3 D6 D9 D10
set_option maxRecDepth 100000
namespace D11
def g23:List Nat:=[4,0,2]
def c23:aY :=
 .seq (.region g23 [(zo 2 (.move (.c (.str []))))]) (.seq (.seq (.region g23 [(mv 3 0),(zo 4 (.ptrEq false (.s 3) (.c (.nilptr))))]) (.cond (.s 4) (.seq (.region g23 [(zo 2 (.move (.c (.str []))))]) .ret) .skip)) (.seq (.region g23 [(mv 5 0),(zo 6 (.nilCheck (.s 5))),(fa 7 0 6),(ld 8 7),(zo 9 (.call (.c (.fn 55)) [.s 8])),(mv 2 9)]) .ret))
theorem e23:bO Tryz.prog 23 g23 [] [] []=some (c23,[.slot 2],10):=by kernel_rfl
def aFv:bC where
 X:=DX
 Y:=Nat->NO
 args:=λ_=>.cons (.own 0 0) .nil
 pre:=λx=>DOk (htT x.T) x
 h0:=λx=>tH 0 1 x.v x.N
 nx0:=2
 post:=DPo
 res:=λx _=>.str (iK Dd x.T)
 h1:=λx y=>tH 0 1 x.v y
 nx1:=2
theorem X9:aFv.Ok Tryz.prog 23:=by
 refine Eng.bC.okR e23 .nil (λx=>[(55,.m (dgS (htT x.T)))]) (by grind[aO.m,both,aO.nil]) ?_;rintro⟨N,T,v,F⟩ (hok:DOk (htT T) ⟨N,T,v,F⟩);refine⟨trivial,?_⟩;repeat' (first|apply aA|exact zf|refine zt ?_|fail)
 refine aB ⟨N,T,v,F⟩ (aB [1] ?_);repeat' (first|exact hok|apply aA|exact trivial|exact rfl|exact zm N rfl|fail)
 refine λ(N2:Nat->NO) (hp2:DPo ⟨N,T,v,F⟩ N2)=>?_;refine aB N2 (aA hp2 ?_);repeat' (first|apply aA|exact trivial|exact rfl|exact zr N2 rfl rfl|fail)
theorem M8{N:Nat->NO}:∀(p:B) {T:TT} {v:Nat} {F:Nat->Prop} {s:TT},gJ Dd N T v F->wfT T->bV p T=some s ->
  ∃u G,atN N v p=some u/\gJ Dd N s u G/\(∀x,G x->F x)/\∀N',gJ Dd N' s u G->(∀x,¬G x->N' x=N x)->gJ Dd N' T v F
 | [],T,v,F,s,h,_,e=>by
  cases e;exact⟨v,F,rfl,h,λ_ hx=>hx,λN' h' _=>h'⟩
 |b::p,.node ids k,v,F,s,h,w,e=>by
  simp only[bV]at e;obtain⟨s1,hg,e2⟩:=aD.1 e;replace w:Srt ids/\Sb (cC k)/\wfK k:=w;obtain⟨a,m,mk,l,q,H,hnv,hlst,hmp,hmk,hpm,hrk,hav,ham,hHv,hHm,hHa,hF⟩:=h;obtain⟨u1,τ,G1,hmg,hru,hG1,hup⟩:=Hp hrk hg w.2.1;obtain⟨u,G,hat,hrs,hGG,hre⟩:=M8 p hru (kZ hg w.2.2).1 e2;refine⟨u,G,?_,hrs,(by grind),λN' h1 h2=>?_⟩
  .grind [pE,atN]
  grind[gJ]
theorem Ed:∀{k:TK} {b:UInt8} {s:TT},dN k b=some s->(b,s)∈dH k
 |.nil,_,_,h=>by cases h
 |.cons x t r,b,s,h=>by
  simp only[dN]at h;simp only[dH];by_cases e:x=b
  .grind
  simp_all[Ed]
theorem xY:∀(p:B) {T s:TT},bV p T=some s->wfT T->G4 T->shT T->wfT s/\G4 s/\shT s/\htT s<=htT T/\szT s<=szT T
 | [],_,_,e,w,l,h=>by cases e; simp[*]
 |b::p,.node ids k,s,e,w,l,h=>by
  simp only[bV]at e;obtain⟨s1,hg,e2⟩:=aD.1 e;replace w:Srt ids/\Sb (cC k)/\wfK k:=w;replace h:(∀i∈ids,i.length<=1000000)/\shK k:=h;obtain⟨f1,f2,f3,f4,f5⟩:=tG (Ed hg) w.2.2 l;obtain⟨g1,g2,g3,g4,g5⟩:=xY p e2 f1 f3 (Js (Ed hg) h.2)
  grind[htT,szT]
structure NX where
 x:DX
 c:Nat
 p:B
def ndO:Option TT->ND
 |none=>⟨[],[],[]⟩
 |some s=>ndT s
def g25:List Nat:=[0,1,11,6,4,5]
def c25:aY :=
 .seq (.region g25 [(zo 4 (.alloc 39 (.cons (.nilsl) (.cons (.str []) (.cons (.nilsl) .nil))))),(zo 5 (.move cF))]) (.seq (.region g25 [(mv 7 0),(mv 8 1),(zo 9 (.call (.c (.fn 56)) [.s 7,.s 8])),(mv 6 9)]) (.seq (.seq (.region g25 [(mv 10 6),(zo 11 (.ptrEq false (.s 10) (.c (.nilptr))))]) (.cond (.s 11) (.seq (.region g25 [(zo 12 (.build (.cons (.nilsl) (.cons (.str []) (.cons (.nilsl) .nil))) [])),⟨none,none,.store 3 (.s 4) (.s 12),[]⟩,(zo 5 (.move cF))]) .ret) .skip)) (.seq (.region g25 [(mv 13 6),(zo 14 (.call (.c (.fn 57)) [.s 13])),⟨none,none,.store 3 (.s 4) (.s 14),[]⟩,(zo 5 (.move cT))]) .ret)))
theorem e25:bO Tryz.prog 25 g25 [] [] []=some (c25,[.cell 4 3 true,.slot 5],15):=by kernel_rfl
def Zr:bC where
 X:=NX
 Y:=(Nat->NO)×ND×Bool
 args:=λx=>.cons (.own 0 0) (.cons (.str x.p) .nil)
 pre:=λx=>DOk (htT x.x.T) x.x/\Cl x.x.N x.c/\x.p.length<=1000000
 h0:=λx=>tH 0 1 x.x.v x.x.N
 nx0:=2
 post:=λx y=>DPo x.x y.1/\y.2.1=ndO (bV x.p x.x.T)/\y.2.2=(bV x.p x.x.T).isSome
 res:=λ_ y=>.tup (.cons (.agg (.cons (.lsl 2 1 y.2.1.ids.length) (.cons (.str y.2.1.bys) (.cons (.lsl 3 1 y.2.1.kids.length) .nil)))) (.cons (.bool y.2.2) .nil))
 h1:=λx y=>lsH 3 y.2.1.kids::lsH 2 y.2.1.ids::tH 0 1 x.x.v y.1
 nx1:=4
theorem Mx:Zr.Ok Tryz.prog 25:=by
 refine Eng.bC.okR e25 .nil (λx=>[(56,.m atS),(57,.m (shS (htT x.x.T)))]) (λx _=>aO.m B4 (aO.m (both (htT x.x.T)).2 aO.nil)) ?_;rintro⟨⟨N,T,v,F⟩,c,p⟩ ⟨(hok:DOk (htT T) ⟨N,T,v,F⟩),(hcl:Cl N c),(hp:p.length<=1000000)⟩;have hrep:gJ Dd N T v F:=hok.rep;have hnd:isNode N v:=by
  cases T with
  |node ids k =>
  obtain⟨a,m,mk,l,q,H,hnv,_⟩:=hrep;exact⟨_,_,_,_,_,hnv⟩
 have hpre:Cl N c/\isNode N v/\p.length<4611686018427387904:=⟨hcl,hnd,by omega⟩;refine⟨trivial,?_⟩;refine aB (v,N,c,p) (aB [0,1] ?_);repeat' (first|exact hpre|apply aA|exact trivial|exact rfl|exact zm N rfl|fail)
 refine λ(y:Option Nat) (hy:y=atN N v p)=>?_;obtain⟨o,ho⟩:∃o,bV p T=o:=⟨_,rfl⟩;cases o with
 |none =>
  have hat:atN N v p=none:=(Df p hrep hok.wf).2 ho;obtain rfl:y=none:=hy.trans hat;repeat' (first|apply aA|exact zh|refine zt ?_|fail)
  have h1:(ndO (bV p T)).ids.length=0:=by rw[ho]; rfl
  have h2:(ndO (bV p T)).kids.length=0:=by rw[ho]; rfl
  have h3:(ndO (bV p T)).bys=[]:=by rw[ho]; rfl
  have h4:(bV p T).isSome=false:=by rw[ho]; rfl
  refine aB (N,ndO (bV p T),(bV p T).isSome) (aA ⟨⟨Mk.refl N,λ_ _=>rfl,hok.rep⟩,rfl,rfl⟩ ?_);repeat' (first|exact h1|exact h2|exact h3.symm|exact h4.symm|apply aA|exact trivial|exact rfl|exact zr N rfl rfl|fail)
 |some s =>
  obtain⟨u,G,hat,hrs,hGF,hre⟩:=M8 p hrep hok.wf ho;obtain rfl:y=some u:=hy.trans hat;obtain⟨f1,f2,f3,f4,f5⟩:=xY p ho hok.wf hok.low hok.sh;have hks:DOk (htT T) ⟨N,s,u,G⟩:=⟨hrs,f1,show szT s<=24 from aV f5 hok.sz,hok.tk,f2,f4,f3⟩;have h1:(ndO (bV p T)).ids=(ndT s).ids:=by rw[ho]; rfl
  have h2:(ndO (bV p T)).kids=(ndT s).kids:=by rw[ho]; rfl
  have h3:(ndO (bV p T)).bys=(ndT s).bys:=by rw[ho]; rfl
  have h4:(bV p T).isSome=true:=by rw[ho]; rfl
  have h5:(ndO (bV p T)).ids.length=(ndT s).ids.length:=by rw[h1]
  have h6:(ndO (bV p T)).kids.length=(ndT s).kids.length:=by rw[h2]
  repeat' (first|apply aA|exact zf|refine zt ?_|fail)
  refine aB ⟨N,s,u,G⟩ (aB [1] ?_);repeat' (first|exact hks|apply aA|exact trivial|exact rfl|exact zr N rfl rfl|fail)
  refine λ(N2:Nat->NO) (hp2:DPo ⟨N,s,u,G⟩ N2)=>?_;have hpo:DPo ⟨N,T,v,F⟩ N2:=⟨hp2.mrk,λz hz=>hp2.out z (by grind),hre N2 hp2.rep hp2.out⟩;refine aB (N2,ndO (bV p T),(bV p T).isSome) (aA ⟨hpo,rfl,rfl⟩ ?_);repeat' (first|exact h5.symm|exact h6.symm|exact h3.symm|exact h4.symm|apply aA|exact trivial|exact rfl|exact zr N2 rfl rfl|exact Fk h1.symm|exact Fk h2.symm|fail)
end D11
end
section
set_option maxHeartbeats 10000000
open Go Go.Eng Go.Proofs L1 L2 L3 L4 L5 L6 L8 L9 T1 T2 T3 T4 T5 T6 T7 T8 T9 T10 T11 T12 T13 T14 T17 T18 T19 T23 T25 T28 T30 T31 D3 D6 D9 D10 D11
set_option maxRecDepth 100000
namespace D12
theorem Co{N N':Nat->NO}(h:Mk N N'){i:Nat}(hn:isNode N i):isNode N' i:=by
 obtain⟨a,n,m,sz,mk,e⟩:=hn;rcases h i with f|⟨_,_,_,_,_,_,_,f⟩
 .exact ⟨_,_,_,_,_,f.trans e⟩
 .exact ⟨_,_,_,_,_,f⟩
theorem tL{N N':Nat->NO}(h:Mk N N'){i a n m:Nat}{sz:Int}{mk:B}(e:N' i=.node a n m sz mk):∃mk',N i=.node a n m sz mk':=by
 rcases h i with f|⟨_,_,_,_,_,_,e2,f⟩
 .grind
 grind
theorem wF{N N':Nat->NO}(h:Mk N N'){i:Nat}{o:NO}(hi:N i=o)(ho:∀a n m sz mk,o≠.node a n m sz mk):N' i=o:=by
 rcases h i with f|⟨_,_,_,_,_,_,e2,f⟩
 .simp [*]
 grind
theorem O5{N N':Nat->NO}(h:Mk N N'){i:Nat}{o:NO}(hi:N' i=o)(ho:∀a n m sz mk,o≠.node a n m sz mk):N i=o:=by
 rcases h i with f|⟨_,_,_,_,_,_,e2,f⟩
 .grind
 grind
theorem aFa{N N':Nat->NO}{c:Nat}(h:Mk N N')(k:Cl N c):Cl N' c:=by
 refine⟨λi hi=>?_,λi a n m sz mk e=>?_,λi l q e x hx=>?_,λi a n m sz mk e=>?_,λi a n m sz mk e=>?_,λi j a n m sz mk n' m' sz' mk' e e'=>?_,h.tk k.tick⟩
 .exact wF h (k.free i hi) (by grind)
 .obtain ⟨mk',e1⟩:=tL h e;obtain⟨l,q,e2⟩:=k.kids _ _ _ _ _ _ e1;exact⟨l,q,wF h e2 (by grind)⟩
 .have e1:=O5 h e (by grind);obtain⟨h1,h2⟩:=k.ent i l q e1 x hx;exact⟨h1,Co h h2⟩
 .obtain ⟨mk',e1⟩:=tL h e;rcases k.lst _ _ _ _ _ _ e1 with⟨h1,h2⟩|⟨A,h1,h2⟩
  .exact .inl ⟨wF h h1 (by grind),h2⟩
  .exact .inr ⟨A,wF h h1 (by grind),h2⟩
 .obtain ⟨mk',e1⟩:=tL h e;exact k.lim _ _ _ _ _ _ e1
 .obtain ⟨mk1,e1⟩:=tL h e;obtain⟨mk2,e2⟩:=tL h e';exact k.own _ _ _ _ _ _ _ _ _ _ _ e1 e2
theorem aFb{N N':Nat->NO}{c r:Nat}{K:Int}(h:Mk N N')(k:T8.Ok ⟨N,c,r⟩ K):T8.Ok ⟨N',c,r⟩ K:=by
 refine⟨aFa h k.cl,Co h k.nd,λi a n m sz mk e=>?_⟩;obtain⟨mk',e1⟩:=tL h e;exact k.bd _ _ _ _ _ _ e1
theorem _root_.T18.Tr.mark{T:TT}{N N2:Nat->NO}{c r:Nat}{K:Int}{F:Nat->Prop}(h:Tr Dd T N c r K)(hF:∀z,F z->z<c)(hp:DPo ⟨N,T,r,F⟩ N2):Tr Dd T N2 c r K :=
 ⟨⟨F,hp.rep,hF⟩,aFb hp.mrk h.ok,h.wf,h.val,h.sz⟩
mutual
theorem oR:∀{T:TT},0<szT T->wfT T->∃t i,gO t i T
 |.node ids k,h,w=>by
  cases ids with
  |cons i r=>exact⟨[],i,_,rfl,aZ⟩
  |nil =>
   simp only[szT,eZ,aP]at h;simp only[wfT]at w;obtain⟨b,s,t,i,hg,hm⟩:=Ps h w.2.2;obtain⟨u,h1,h2⟩:=hm;exact⟨b::t,i,u,by grind[bV],h2⟩
theorem Ps:∀{k:TK},0<szK k->wfK k->∃b s t i,dN k b=some s/\gO t i s
 |.nil,h,_=>absurd h (Nat.lt_irrefl _)
 |.cons b s r,_,w=>by
  simp only[wfK]at w;obtain⟨t,i,hm⟩:=oR w.2.1 w.1;exact⟨b,s,t,i,by simp only[dN,if_pos],hm⟩
end
def P8(n:Nat)(t i:B):Prop:=(∀b∈t,b.toNat<128)/\t.length<=n/\i.length<=1000000
theorem Xk{ids:List B}{k:TK}{b:UInt8}{s:TT}{t i:B}(hs:Sb (cC k))(h:(b,s)∈dH k)(hm:gO t i s):gO (b::t) i (.node ids k):=by
 obtain⟨u,h1,h2⟩:=hm;exact⟨u,by simp only[bV,sB hs h,Option.bind_some,h1],h2⟩
mutual
theorem Ab:∀(T:TT) (n:Nat),wfT T->(∀t i,gO t i T->P8 n t i)->G4 T/\shT T/\htT T<=n+1
 |.node ids k,n,w,h=>by
  simp only[wfT]at w;obtain⟨h1,h2,h3⟩:=Rr k n w.2.2 (by grind[Xk]);refine⟨h1,⟨λi hi=>(h [] i ⟨_,rfl,hi⟩).2.2,h2⟩,?_⟩
  grind[htT]
theorem Rr:∀(k:TK) (n:Nat),wfK k->(∀b s,(b,s)∈dH k->∀t i,gO t i s->P8 n (b::t) i)->J0 k/\shK k/\htK k<=n
 |.nil,_,_,_=>⟨trivial,trivial,aS _⟩
 |.cons b s r,n,w,h=>by
  simp only[wfK]at w;obtain⟨t,i,hm⟩:=oR w.2.1 w.1;have h0:=h b s aZ t i hm;obtain⟨m,rfl⟩:∃m,n=m+1:=⟨n-1,by have:=h0.2.1; grind⟩;obtain⟨h1,h2,h3⟩:=Ab s m w.1 λt i hm=>by
   obtain⟨a1,a2,a3⟩:=h b s aZ t i hm;exact⟨(by grind),by grind,a3⟩
  obtain⟨h4,h5,h6⟩:=Rr r (m+1) w.2.2 λb' s' hb=>h b' s' (aW _ hb);exact⟨⟨h0.1 b aZ,h1,h4⟩,⟨h2,h5⟩,Nat.max_le.2 ⟨h3,h6⟩⟩
end
theorem Ep{t i:B}(h:kF t i=true):P8 120 t i:=by
 unfold kF at h;simp only[aI,decide_eq_true_eq,dI]at h;obtain⟨h1,h2,h3⟩:=h;refine⟨λb hb=>?_,h2,?_⟩
 .grind [okB]
 .unfold idV jB at h3
  grind
theorem _root_.T18.Tr.facts{D:Dg}{T:TT}{N:Nat->NO}{c r:Nat}{K:Int}(h:Tr D T N c r K):G4 T/\shT T/\htT T<=121:=Ab T 120 h.wf λt i hm=>Ep (h.val t i hm)
theorem _root_.T18.Tr.dok{T:TT}{N:Nat->NO}{c r:Nat}{K:Int}(h:Tr Dd T N c r K)(hs:szT T<=24):∃F,DOk (htT T) ⟨N,T,r,F⟩/\∀z,F z->z<c:=by
 obtain⟨F,h1,h2⟩:=h.rep;exact⟨F,⟨h1,h.wf,hs,h.ok.cl.tick,h.facts.1,aN _,h.facts.2.1⟩,h2⟩
theorem _root_.T18.Tr.aok{D:Dg}{T:TT}{N:Nat->NO}{c r:Nat}{K:Int}(h:Tr D T N c r K)(hs:szT T<=24):AOk (htT T) ⟨N,T,r,[]⟩:=by
 obtain⟨F,h1,h2⟩:=h.rep;have:=h.facts.2.2;exact⟨⟨D,F,h1⟩,h.wf,hs,h.ok.cl.tick,h.facts.1,aN _,by grind⟩
end D12
end
section
open Go Go.Eng Go.Proofs T1 T2 T3 T4 T5 T6 T7 T8 T9 T11 T12 T13 T14 T17 T18 T19 T20 T26 D9 D10 D11 D12
set_option maxRecDepth 100000
namespace D13
def via(S:bC){X' Y':Type}(g:X'->S.X)(pre':X'->Prop)(post':X'->Y'->Prop)(res':X'->Y'->SV)(h1':X'->Y'->List (Nat×aL)):bC :=
 { X:=X',Y:=Y',args:=λx=>S.args (g x),pre:=pre',h0:=λx=>S.h0 (g x),nx0:=S.nx0,post:=post',res:=res',h1:=h1',nx1:=S.nx1,fresh:=S.fresh }
theorem Fm{P:Program}{f:Nat}{S:bC}(h:S.Ok P f){X' Y':Type}{g:X'->S.X}{pre':X'->Prop}{post':X'->Y'->Prop}{res':X'->Y'->SV}{h1':X'->Y'->List (Nat×aL)}
  (hp:∀x,pre' x->S.pre (g x)) (hy:∀x y,pre' x->S.post (g x) y->∃y',post' x y'/\res' x y'=S.res (g x) y/\h1' x y'=S.h1 (g x) y):(via S g pre' post' res' h1').Ok P f:=by
 refine⟨h.call,?_⟩;intro x w μ vs T U hU hg hh hpr hR;refine(h.does (g x) w μ vs T U hU hg hh (hp x hpr) hR).mono ?_;intro e w' he;cases e with
 |returned v =>
  obtain⟨y,μ',h1,h2,h3,h4⟩:=he;obtain⟨y',k1,k2,k3⟩:=hy x y hpr h1;refine⟨y',μ',k1,?_,?_,h4⟩
  .show bD _ μ' (h1' x y') S.nx1 w';rw[k3];exact h2
  .show R (aG _ μ' (h1' x y') w') (res' x y') [v];rw[k2,k3];exact h3
 |panicked c=>exact he.elim
 |outgrown=>exact he.elim
structure PX where
 T:TT
 N:Nat->NO
 c:Nat
 r:Nat
 K:Int
 k:Ky
structure POk(x:PX):Prop where
 tr:Tr Dd x.T x.N x.c x.r x.K
 k0:0<=x.K
 k1:x.K<=1000000000000
 len:x.k.1.length<4611686018427387904
def dcT(T:TT)(k:Ky):Int:=bif Br T k.1 k.2 then 0 else 10
def ptS:bC:=via X4 (X':=PX) (Y':=(Nat->NO)×Nat×Int) (λx=>HX.mk true x.N x.c x.r x.k.1 x.k.2) POk
 (λx y=>Tr Dd (lQ x.T x.k) y.1 y.2.1 x.r (x.K+1000)/\y.2.2=pcT x.T x.k) (λ_ y=>.int .i64 y.2.2) (λx y=>tH 0 1 x.r y.1)
theorem Zs:ptS.Ok Tryz.prog 15:=by
 refine Fm Ub (λx h=>h.tr.M6 h.k1 h.len) λx y h hy=>?_;exact⟨(sR ⟨true,x.N,x.c,x.r,x.k.1,x.k.2⟩ y,putc ⟨true,x.N,x.c,x.r,x.k.1,x.k.2⟩,qI ⟨true,x.N,x.c,x.r,x.k.1,x.k.2⟩),⟨h.tr.put1 h.k0 x.k hy,h.tr.code⟩,rfl,rfl⟩
def dtS:bC:=via Ri (X':=PX) (Y':=(Nat->NO)×Int) (λx=>HX.mk false x.N x.c x.r x.k.1 x.k.2) POk
 (λx y=>Tr Dd (lP x.T x.k) y.1 x.c x.r (x.K+1000)/\y.2=dcT x.T x.k) (λ_ y=>.int .i64 y.2) (λx y=>tH 0 1 x.r y.1)
theorem Y6:dtS.Ok Tryz.prog 14:=by
 refine Fm Wg (λx h=>h.tr.Rj h.k1 h.len) λx y h hy=>?_;refine⟨(nB ⟨false,x.N,x.c,x.r,x.k.1,x.k.2⟩,yG ⟨false,x.N,x.c,x.r,x.k.1,x.k.2⟩),⟨h.tr.drop1 h.k0 x.k,?_⟩,rfl,rfl⟩;show yG _=dcT _ _;unfold yG dcT;have e:HX.has ⟨false,x.N,x.c,x.r,x.k.1,x.k.2⟩=Br x.T x.k.1 x.k.2:=by rw[bH,h.tr.has,iY]
 rw[e]
end D13
end
