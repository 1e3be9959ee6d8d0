/- A part of the proof. -/
import Derived.Test.YtpiolkcdfgiefaaGreatDoorD10
import Derived.Test.YtpiolkcdfgiefaaGreatDoorT28
section
open Go Go.Eng Go.Proofs T1 T2 T3 T4 T5 T6 T7 T8 T13 T14 T17 T23 T25 T28 T30 T31 D3 D6 D9 D10
set_option maxRecDepth 100000
namespace D11
theorem Hj {N:Nat->NO}:∀ (p:B) {T:TT} {v:Nat} {F:Nat->Prop} {s:TT},dG Dd N T v F->wfT T->cL p T=some s ->
  ∃ u G,atN N v p=some u/\dG Dd N s u G/\(∀ x,G x->F x)/\∀ N',dG Dd N' s u G->(∀ x,¬ G x->N' x=N x)->dG Dd N' T v F
 | [],T,v,F,s,h,_,e=>by
  cases e
  exact ⟨v,F,rfl,h,fun _ hx=>hx,fun N' h' _=>h'⟩
 | b::p,.node ids k,v,F,s,h,w,e=>by
  simp only [cL] at e
  obtain ⟨s1,hg,e2⟩:=Option.bind_eq_some_iff.1 e
  replace w:Srt ids/\Sb (aP k)/\wfK k:=w
  obtain ⟨a,m,mk,l,q,H,hnv,hlst,hmp,hmk,hpm,hrk,hav,ham,hHv,hHm,hHa,hF⟩:=h
  obtain ⟨u1,τ,G1,hmg,hru,hG1,hup⟩:=Ci hrk hg w.2.1
  obtain ⟨u,G,hat,hrs,hGG,hre⟩:=Hj p hru (iA hg w.2.2).1 e2
  refine ⟨u,G,?_,hrs,fun x hx=>(hF x).2 (.inr (.inr (.inr (hG1 x (hGG x hx))))),fun N' h1 h2=>?_⟩
  ·have hk:rX N v b=some u1:=by rw [kJ hnv hmp,hmg]; rfl
   simp only [atN,hk]
   exact hat
  ·have hr1:dG Dd N' s1 u1 G1:=hre N' h1 h2
   have hH:∀ x,¬ H x->N' x=N x:=fun x hx=>h2 x fun hg=>hx (hG1 x (hGG x hg))
   have hrk':=hup N' hr1 fun x hx=>h2 x fun hg=>hx (hGG x hg)
   exact ⟨a,m,mk,l,q,H,(hH v hHv).trans hnv,by rw [hH a hHa]; exact hlst,(hH m hHm).trans hmp,hmk,hpm,hrk',hav,ham,hHv,hHm,hHa,hF⟩
theorem zA:∀ {k:TK} {b:UInt8} {s:TT},cC k b=some s->(b,s)∈bB k
 | .nil,_,_,h=>by cases h
 | .cons x t r,b,s,h=>by
  simp only [cC] at h
  simp only [bB]
  by_cases e:x=b
  ·rw [if_pos e] at h; cases h; subst e; exact List.mem_cons_self
  ·rw [if_neg e] at h; exact List.mem_cons_of_mem _ (zA h)
theorem xU:∀ (p:B) {T s:TT},cL p T=some s->wfT T->Bx T->shT T->wfT s/\Bx s/\shT s/\htT s<=htT T/\szT s<=szT T
 | [],_,_,e,w,l,h=>by cases e; exact ⟨w,l,h,Nat.le_refl _,Nat.le_refl _⟩
 | b::p,.node ids k,s,e,w,l,h=>by
  simp only [cL] at e
  obtain ⟨s1,hg,e2⟩:=Option.bind_eq_some_iff.1 e
  replace w:Srt ids/\Sb (aP k)/\wfK k:=w
  replace h:(∀ i∈ids,i.length<=1000000)/\shK k:=h
  obtain ⟨f1,f2,f3,f4,f5⟩:=oA (zA hg) w.2.2 l
  obtain ⟨g1,g2,g3,g4,g5⟩:=xU p e2 f1 f3 (Ev (zA hg) h.2)
  exact ⟨g1,g2,g3,by simp only [htT]; omega,by simp only [szT]; omega⟩
structure NX where
 x:DX
 c:Nat
 p:B
def ndO:Option TT->ND
 | none=>⟨[],[],[]⟩
 | some s=>ndT s
def g25:List Nat:=[0,1,11,6,4,5]
def c25:aF :=
 .seq (.region g25 [(zo 4 (.alloc 39 (.cons (.nilsl) (.cons (.str []) (.cons (.nilsl) .nil))))),(zo 5 (.move cF))]) (.seq (.region g25 [(mv 7 0),(mv 8 1),(zo 9 (.call (.c (.fn 56)) [.s 7,.s 8])),(mv 6 9)]) (.seq (.seq (.region g25 [(mv 10 6),(zo 11 (.ptrEq false (.s 10) (.c (.nilptr))))]) (.cond (.s 11) (.seq (.region g25 [(zo 12 (.build (.cons (.nilsl) (.cons (.str []) (.cons (.nilsl) .nil))) [])),⟨none,none,.store 3 (.s 4) (.s 12),[]⟩,(zo 5 (.move cF))]) .ret) .skip)) (.seq (.region g25 [(mv 13 6),(zo 14 (.call (.c (.fn 57)) [.s 13])),⟨none,none,.store 3 (.s 4) (.s 14),[]⟩,(zo 5 (.move cT))]) .ret)))
theorem e25:aO Tryz.prog 25 g25 [] [] []=some (c25,[.cell 4 3 true,.slot 5],15):=by kernel_rfl
def Re:aK where
 X:=NX
 Y:=(Nat->NO)×ND×Bool
 args:=fun x=>.cons (.own 0 0) (.cons (.str x.p) .nil)
 pre:=fun x=>DOk (htT x.x.T) x.x/\Cl x.x.N x.c/\x.p.length<=1000000
 h0:=fun x=>tH 0 1 x.x.v x.x.N
 nx0:=2
 post:=fun x y=>DPo x.x y.1/\y.2.1=ndO (cL x.p x.x.T)/\y.2.2=(cL x.p x.x.T).isSome
 res:=fun _ y=>.tup (.cons (.agg (.cons (.lsl 2 1 y.2.1.ids.length) (.cons (.str y.2.1.bys) (.cons (.lsl 3 1 y.2.1.kids.length) .nil)))) (.cons (.bool y.2.2) .nil))
 h1:=fun x y=>lsH 3 y.2.1.kids::lsH 2 y.2.1.ids::tH 0 1 x.x.v y.1
 nx1:=4
theorem Pt:Re.Ok Tryz.prog 25:=by
 refine Eng.aK.okR e25 .nil (fun x=>[(56,.m atS),(57,.m (shS (htT x.x.T)))]) (fun x _=>aD.m wN (aD.m (both (htT x.x.T)).2 aD.nil)) ?_
 rintro ⟨⟨N,T,v,F⟩,c,p⟩ ⟨(hok:DOk (htT T) ⟨N,T,v,F⟩),(hcl:Cl N c),(hp:p.length<=1000000)⟩
 have hrep:dG Dd N T v F:=hok.rep
 have hnd:isNode N v:=by
  cases T with
  | node ids k =>
  obtain ⟨a,m,mk,l,q,H,hnv,_⟩:=hrep
  exact ⟨_,_,_,_,_,hnv⟩
 have hpre:Cl N c/\isNode N v/\p.length < 4611686018427387904:=⟨hcl,hnd,by omega⟩
 refine ⟨trivial,?_⟩
 repeat' (first|apply And.intro|exact trivial|exact rfl|exact zm N rfl|exact zr N rfl rfl|exact zf|exact zh|refine zt ?_|fail)
 refine Exists.intro (v,N,c,p) (Exists.intro [0,1] ?_)
 repeat' (first|exact hpre|apply And.intro|exact trivial|exact rfl|exact zm N rfl|exact zr N rfl rfl|exact zf|exact zh|refine zt ?_|fail)
 refine fun (y:Option Nat) (hy:y=atN N v p)=>?_
 obtain ⟨o,ho⟩:∃ o,cL p T=o:=⟨_,rfl⟩
 cases o with
 | none =>
  have hat:atN N v p=none:=(yD p hrep hok.wf).2 ho
  obtain rfl:y=none:=hy.trans hat
  repeat' (first|apply And.intro|exact trivial|exact rfl|exact zm N rfl|exact zr N rfl rfl|exact zf|exact zh|refine zt ?_|fail)
  have h1:(ndO (cL p T)).ids.length=0:=by rw [ho]; rfl
  have h2:(ndO (cL p T)).kids.length=0:=by rw [ho]; rfl
  have h3:(ndO (cL p T)).bys=[]:=by rw [ho]; rfl
  have h4:(cL p T).isSome=false:=by rw [ho]; rfl
  refine Exists.intro (N,ndO (cL p T),(cL p T).isSome) (And.intro ⟨⟨Mk.refl N,fun _ _=>rfl,hok.rep⟩,rfl,rfl⟩ ?_)
  repeat' (first|exact h1|exact h1.symm|exact h2|exact h2.symm|exact h3|exact h3.symm|exact h4|exact h4.symm|apply And.intro|exact trivial|exact rfl|exact zm N rfl|exact zr N rfl rfl|exact zf|exact zh|refine zt ?_|fail)
 | some s =>
  obtain ⟨u,G,hat,hrs,hGF,hre⟩:=Hj p hrep hok.wf ho
  obtain rfl:y=some u:=hy.trans hat
  obtain ⟨f1,f2,f3,f4,f5⟩:=xU p ho hok.wf hok.low hok.sh
  have hks:DOk (htT T) ⟨N,s,u,G⟩:=⟨hrs,f1,show szT s<=12 from Nat.le_trans f5 hok.sz,hok.tk,f2,f4,f3⟩
  have h1:(ndO (cL p T)).ids=(ndT s).ids:=by rw [ho]; rfl
  have h2:(ndO (cL p T)).kids=(ndT s).kids:=by rw [ho]; rfl
  have h3:(ndO (cL p T)).bys=(ndT s).bys:=by rw [ho]; rfl
  have h4:(cL p T).isSome=true:=by rw [ho]; rfl
  have h5:(ndO (cL p T)).ids.length=(ndT s).ids.length:=by rw [h1]
  have h6:(ndO (cL p T)).kids.length=(ndT s).kids.length:=by rw [h2]
  repeat' (first|apply And.intro|exact trivial|exact rfl|exact zm N rfl|exact zr N rfl rfl|exact zf|exact zh|refine zt ?_|fail)
  refine Exists.intro ⟨N,s,u,G⟩ (Exists.intro [1] ?_)
  repeat' (first|exact hks|apply And.intro|exact trivial|exact rfl|exact zm N rfl|exact zr N rfl rfl|exact zf|exact zh|refine zt ?_|fail)
  refine fun (N2:Nat->NO) (hp2:DPo ⟨N,s,u,G⟩ N2)=>?_
  repeat' (first|apply And.intro|exact trivial|exact rfl|exact zm N2 rfl|exact zr N2 rfl rfl|exact zf|exact zh|refine zt ?_|exact fun (j:Nat) (hj:j < _)=>Or.inl (aL _ _ _ _)|fail)
  have hpo:DPo ⟨N,T,v,F⟩ N2:=⟨hp2.mrk,fun z hz=>hp2.out z fun h=>hz (hGF z h),hre N2 hp2.rep hp2.out⟩
  refine Exists.intro (N2,ndO (cL p T),(cL p T).isSome) (And.intro ⟨hpo,rfl,rfl⟩ ?_)
  repeat' (first|exact h5|exact h5.symm|exact h6|exact h6.symm|exact h3|exact h3.symm|exact h4|exact h4.symm|apply And.intro|exact trivial|exact rfl|exact zm N2 rfl|exact zr N2 rfl rfl|exact zf|exact zh|refine zt ?_|exact Al h1.symm|exact Al h2.symm|fail)
end D11
end
section
open Go Go.Eng Go.Proofs L1 L2 L3 L4 L5 L6 L8 L9 T1 T2 T3 T4 T5 T6 T7 T8 T9 T10 T11 T12 T13 T14 T17 T18 T19 T23 T25 T28 T30 T31 D3 D6 D9 D10 D11
set_option maxRecDepth 100000
namespace D12
theorem xE {N N':Nat->NO} (h:Mk N N') {i:Nat} (hn:isNode N i):isNode N' i:=by
 obtain ⟨a,n,m,sz,mk,e⟩:=hn
 rcases h i with f|⟨_,_,_,_,_,_,_,f⟩
 ·exact ⟨_,_,_,_,_,f.trans e⟩
 ·exact ⟨_,_,_,_,_,f⟩
theorem oF {N N':Nat->NO} (h:Mk N N') {i a n m:Nat} {sz:Int} {mk:B} (e:N' i=.node a n m sz mk):∃ mk',N i=.node a n m sz mk':=by
 rcases h i with f|⟨_,_,_,_,_,_,e2,f⟩
 ·exact ⟨_,f.symm.trans e⟩
 ·rw [f] at e; cases e; exact ⟨_,e2⟩
theorem qS {N N':Nat->NO} (h:Mk N N') {i:Nat} {o:NO} (hi:N i=o) (ho:∀ a n m sz mk,o≠.node a n m sz mk):N' i=o:=by
 rcases h i with f|⟨_,_,_,_,_,_,e2,f⟩
 ·exact f.trans hi
 ·exact absurd (hi.symm.trans e2) (ho _ _ _ _ _)
theorem I4 {N N':Nat->NO} (h:Mk N N') {i:Nat} {o:NO} (hi:N' i=o) (ho:∀ a n m sz mk,o≠.node a n m sz mk):N i=o:=by
 rcases h i with f|⟨_,_,_,_,_,_,e2,f⟩
 ·exact f.symm.trans hi
 ·exact absurd (hi.symm.trans f) (ho _ _ _ _ _)
theorem Vp {N N':Nat->NO} {c:Nat} (h:Mk N N') (k:Cl N c):Cl N' c:=by
 refine ⟨fun i hi=>?_,fun i a n m sz mk e=>?_,fun i l q e x hx=>?_,fun i a n m sz mk e=>?_,fun i a n m sz mk e=>?_,fun i j a n m sz mk n' m' sz' mk' e e'=>?_,h.tk k.tick⟩
 ·exact qS h (k.free i hi) fun _ _ _ _ _ e=>by cases e
 ·obtain ⟨mk',e1⟩:=oF h e
  obtain ⟨l,q,e2⟩:=k.kids _ _ _ _ _ _ e1
  exact ⟨l,q,qS h e2 fun _ _ _ _ _ e=>by cases e⟩
 ·have e1:=I4 h e fun _ _ _ _ _ e=>by cases e
  obtain ⟨h1,h2⟩:=k.ent i l q e1 x hx
  exact ⟨h1,xE h h2⟩
 ·obtain ⟨mk',e1⟩:=oF h e
  rcases k.lst _ _ _ _ _ _ e1 with ⟨h1,h2⟩|⟨A,h1,h2⟩
  ·exact .inl ⟨qS h h1 (fun _ _ _ _ _ e=>by cases e),h2⟩
  ·exact .inr ⟨A,qS h h1 (fun _ _ _ _ _ e=>by cases e),h2⟩
 ·obtain ⟨mk',e1⟩:=oF h e
  exact k.lim _ _ _ _ _ _ e1
 ·obtain ⟨mk1,e1⟩:=oF h e
  obtain ⟨mk2,e2⟩:=oF h e'
  exact k.own _ _ _ _ _ _ _ _ _ _ _ e1 e2
theorem Vq {N N':Nat->NO} {c r:Nat} {K:Int} (h:Mk N N') (k:T8.Ok ⟨N,c,r⟩ K):T8.Ok ⟨N',c,r⟩ K:=by
 refine ⟨Vp h k.cl,xE h k.nd,fun i a n m sz mk e=>?_⟩
 obtain ⟨mk',e1⟩:=oF h e
 exact k.bd _ _ _ _ _ _ e1
theorem _root_.T18.Tr.mark {T:TT} {N N2:Nat->NO} {c r:Nat} {K:Int} {F:Nat->Prop} (h:Tr Dd T N c r K) (hF:∀ z,F z->z < c) (hp:DPo ⟨N,T,r,F⟩ N2):Tr Dd T N2 c r K :=
 ⟨⟨F,hp.rep,hF⟩,Vq hp.mrk h.ok,h.wf,h.val,h.sz⟩
mutual
theorem Cp:∀ {T:TT},0 < szT T->wfT T->∃ t i,eB t i T
 | .node ids k,h,w=>by
  cases ids with
  | cons i r=>exact ⟨[],i,_,rfl,List.mem_cons_self⟩
  | nil =>
   simp only [szT,List.length_nil,Nat.zero_add] at h
   simp only [wfT] at w
   obtain ⟨b,s,t,i,hg,hm⟩:=Ji h w.2.2
   obtain ⟨u,h1,h2⟩:=hm
   exact ⟨b::t,i,u,by simp only [cL,hg,Option.bind_some,h1],h2⟩
theorem Ji:∀ {k:TK},0 < szK k->wfK k->∃ b s t i,cC k b=some s/\eB t i s
 | .nil,h,_=>absurd h (Nat.lt_irrefl _)
 | .cons b s r,_,w=>by
  simp only [wfK] at w
  obtain ⟨t,i,hm⟩:=Cp w.2.1 w.1
  exact ⟨b,s,t,i,by simp only [cC,if_pos],hm⟩
end
def Jw (n:Nat) (t i:B):Prop:=(∀ b∈t,b.toNat < 128)/\t.length<=n/\i.length<=1000000
theorem Pn {ids:List B} {k:TK} {b:UInt8} {s:TT} {t i:B} (hs:Sb (aP k)) (h:(b,s)∈bB k) (hm:eB t i s):eB (b::t) i (.node ids k):=by
 obtain ⟨u,h1,h2⟩:=hm
 exact ⟨u,by simp only [cL,qJ hs h,Option.bind_some,h1],h2⟩
mutual
theorem A8:∀ (T:TT) (n:Nat),wfT T->(∀ t i,eB t i T->Jw n t i)->Bx T/\shT T/\htT T<=n+1
 | .node ids k,n,w,h=>by
  simp only [wfT] at w
  obtain ⟨h1,h2,h3⟩:=K2 k n w.2.2 fun b s hbs t i hm=>h _ _ (Pn w.2.1 hbs hm)
  refine ⟨h1,⟨fun i hi=>(h [] i ⟨_,rfl,hi⟩).2.2,h2⟩,?_⟩
  simp only [htT]
  omega
theorem K2:∀ (k:TK) (n:Nat),wfK k->(∀ b s,(b,s)∈bB k->∀ t i,eB t i s->Jw n (b::t) i)->E3 k/\shK k/\htK k<=n
 | .nil,_,_,_=>⟨trivial,trivial,Nat.zero_le _⟩
 | .cons b s r,n,w,h=>by
  simp only [wfK] at w
  obtain ⟨t,i,hm⟩:=Cp w.2.1 w.1
  have h0:=h b s List.mem_cons_self t i hm
  obtain ⟨m,rfl⟩:∃ m,n=m+1:=⟨n - 1,by have:=h0.2.1; simp only [List.length_cons] at this; omega⟩
  obtain ⟨h1,h2,h3⟩:=A8 s m w.1 fun t i hm=>by
   obtain ⟨a1,a2,a3⟩:=h b s List.mem_cons_self t i hm
   exact ⟨fun x hx=>a1 x (List.mem_cons_of_mem _ hx),by simp only [List.length_cons] at a2; omega,a3⟩
  obtain ⟨h4,h5,h6⟩:=K2 r (m+1) w.2.2 fun b' s' hb=>h b' s' (List.mem_cons_of_mem _ hb)
  exact ⟨⟨h0.1 b List.mem_cons_self,h1,h4⟩,⟨h2,h5⟩,Nat.max_le.2 ⟨h3,h6⟩⟩
end
theorem Lp {t i:B} (h:jD t i=true):Jw 120 t i:=by
 unfold jD at h
 simp only [Bool.and_eq_true,decide_eq_true_eq,List.all_eq_true] at h
 obtain ⟨h1,h2,h3⟩:=h
 refine ⟨fun b hb=>?_,h2,?_⟩
 ·have:=h1 b hb
  unfold okB at this
  simp at this
  omega
 ·unfold idV fO at h3
  by_cases e:20000 < i.length
  ·rw [if_pos e] at h3
   simp at h3
  ·omega
theorem _root_.T18.Tr.facts {D:Dg} {T:TT} {N:Nat->NO} {c r:Nat} {K:Int} (h:Tr D T N c r K):Bx T/\shT T/\htT T<=121:=A8 T 120 h.wf fun t i hm=>Lp (h.val t i hm)
theorem _root_.T18.Tr.dok {T:TT} {N:Nat->NO} {c r:Nat} {K:Int} (h:Tr Dd T N c r K) (hs:szT T<=12):∃ F,DOk (htT T) ⟨N,T,r,F⟩/\∀ z,F z->z < c:=by
 obtain ⟨F,h1,h2⟩:=h.rep
 exact ⟨F,⟨h1,h.wf,hs,h.ok.cl.tick,h.facts.1,Nat.le_refl _,h.facts.2.1⟩,h2⟩
theorem _root_.T18.Tr.aok {D:Dg} {T:TT} {N:Nat->NO} {c r:Nat} {K:Int} (h:Tr D T N c r K) (hs:szT T<=12):AOk (htT T) ⟨N,T,r,[]⟩:=by
 obtain ⟨F,h1,h2⟩:=h.rep
 have:=h.facts.2.2
 exact ⟨⟨D,F,h1⟩,h.wf,hs,h.ok.cl.tick,h.facts.1,Nat.le_refl _,by simp only [List.length_nil]; omega⟩
end D12
end
section
open Go Go.Eng Go.Proofs T1 T2 T3 T4 T5 T6 T7 T8 T9 T11 T12 T13 T14 T17 T18 T19 T20 T26 D9 D10 D11 D12
set_option maxRecDepth 100000
namespace D13
def via (S:aK) {X' Y':Type} (g:X'->S.X) (pre':X'->Prop) (post':X'->Y'->Prop) (res':X'->Y'->SV) (h1':X'->Y'->List (Nat×aC)):aK :=
 { X:=X',Y:=Y',args:=fun x=>S.args (g x),pre:=pre',h0:=fun x=>S.h0 (g x),nx0:=S.nx0,post:=post',res:=res',h1:=h1',nx1:=S.nx1,fresh:=S.fresh }
theorem Nt {P:Program} {f:Nat} {S:aK} (h:S.Ok P f) {X' Y':Type} {g:X'->S.X} {pre':X'->Prop} {post':X'->Y'->Prop} {res':X'->Y'->SV} {h1':X'->Y'->List (Nat×aC)}
  (hp:∀ x,pre' x->S.pre (g x)) (hy:∀ x y,pre' x->S.post (g x) y->∃ y',post' x y'/\res' x y'=S.res (g x) y/\h1' x y'=S.h1 (g x) y):(via S g pre' post' res' h1').Ok P f:=by
 refine ⟨h.call,?_⟩
 intro x w μ vs T U hU hg hh hpr hR
 refine (h.does (g x) w μ vs T U hU hg hh (hp x hpr) hR).mono ?_
 intro e w' he
 cases e with
 | returned v =>
  obtain ⟨y,μ',h1,h2,h3,h4⟩:=he
  obtain ⟨y',k1,k2,k3⟩:=hy x y hpr h1
  refine ⟨y',μ',k1,?_,?_,h4⟩
  ·show aE _ μ' (h1' x y') S.nx1 w'
   rw [k3]
   exact h2
  ·show R (aA _ μ' (h1' x y') w') (res' x y') [v]
   rw [k2,k3]
   exact h3
 | panicked c=>exact he.elim
 | outgrown=>exact he.elim
structure PX where
 T:TT
 N:Nat->NO
 c:Nat
 r:Nat
 K:Int
 k:Ky
structure POk (x:PX):Prop where
 tr:Tr Dd x.T x.N x.c x.r x.K
 k0:0<=x.K
 k1:x.K<=1000000000000
 len:x.k.1.length < 4611686018427387904
def dcT (T:TT) (k:Ky):Int:=bif tG T k.1 k.2 then 0 else 10
def ptS:aK:=via P0 (X':=PX) (Y':=(Nat->NO)×Nat×Int) (fun x=>HX.mk true x.N x.c x.r x.k.1 x.k.2) POk
 (fun x y=>Tr Dd (iQ x.T x.k) y.1 y.2.1 x.r (x.K+1000)/\y.2.2=pcT x.T x.k) (fun _ y=>.int .i64 y.2.2) (fun x y=>tH 0 1 x.r y.1)
theorem Rf:ptS.Ok Tryz.prog 15:=by
 refine Nt Mv (fun x h=>h.tr.Hh h.k1 h.len) fun x y h hy=>?_
 exact ⟨(nL ⟨true,x.N,x.c,x.r,x.k.1,x.k.2⟩ y,putc ⟨true,x.N,x.c,x.r,x.k.1,x.k.2⟩,lI ⟨true,x.N,x.c,x.r,x.k.1,x.k.2⟩),⟨h.tr.put1 h.k0 x.k hy,h.tr.code⟩,rfl,rfl⟩
def dtS:aK:=via Kr (X':=PX) (Y':=(Nat->NO)×Int) (fun x=>HX.mk false x.N x.c x.r x.k.1 x.k.2) POk
 (fun x y=>Tr Dd (kI x.T x.k) y.1 x.c x.r (x.K+1000)/\y.2=dcT x.T x.k) (fun _ y=>.int .i64 y.2) (fun x y=>tH 0 1 x.r y.1)
theorem Qs:dtS.Ok Tryz.prog 14:=by
 refine Nt Oq (fun x h=>h.tr.Ks h.k1 h.len) fun x y h hy=>?_
 refine ⟨(iE ⟨false,x.N,x.c,x.r,x.k.1,x.k.2⟩,sV ⟨false,x.N,x.c,x.r,x.k.1,x.k.2⟩),⟨h.tr.drop1 h.k0 x.k,?_⟩,rfl,rfl⟩
 show sV _=dcT _ _
 unfold sV dcT
 have e:HX.has ⟨false,x.N,x.c,x.r,x.k.1,x.k.2⟩=tG x.T x.k.1 x.k.2:=by rw [Bool.eq_iff_iff,h.tr.has,gN]
 rw [e]
end D13
end
