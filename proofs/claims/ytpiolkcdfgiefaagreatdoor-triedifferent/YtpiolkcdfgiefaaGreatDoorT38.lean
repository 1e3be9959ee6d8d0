/- A part of the proof. -/
import Derived.Test.YtpiolkcdfgiefaaGreatDoorT6
import Derived.Test.YtpiolkcdfgiefaaGreatDoorT25
import Derived.Test.YtpiolkcdfgiefaaGreatDoorD13
import Derived.Test.YtpiolkcdfgiefaaGreatDoorD14
import Derived.Test.YtpiolkcdfgiefaaGreatDoorVO
section
section
open Go Go.Eng Go.Proofs T1 T3
set_option maxRecDepth 100000
namespace T4
theorem W7 {a b:B} (h:bl a b=true):bl b a=false:=by
 cases e:bl b a with
 | false=>rfl
 | true=>have:=Kb h e; rw [Dj] at this; cases this
end T4
end
section
open Go Go.Eng Go.Proofs T1 T2 T3 T4 T5 T6 T10 T11 T21
set_option maxRecDepth 100000
namespace T22
def W9:aK:=Wf.mof Bool (fun x y=>y=decide (x.1=x.2)) (fun _ y=>.bool y)
theorem Wu:W9.Ok Tryz.prog 28:=Eng.Spec.iN Lp fun _ _=>⟨_,rfl,rfl⟩
end T22
end
section
open Go Go.Eng Go.Proofs T1 T2 T3 T4 T5 T6 T7 T8 T13 T14 T17 T23 T25 T28 T30 T31 D3 D6 D9 D10
set_option maxRecDepth 100000
namespace D11
def g23:List Nat:=[4,0,2]
def c23:aF :=
 .seq (.region g23 [(zo 2 (.move (.c (.str []))))]) (.seq (.seq (.region g23 [(mv 3 0),(zo 4 (.ptrEq false (.s 3) (.c (.nilptr))))]) (.cond (.s 4) (.seq (.region g23 [(zo 2 (.move (.c (.str []))))]) .ret) .skip)) (.seq (.region g23 [(mv 5 0),(zo 6 (.nilCheck (.s 5))),(fa 7 0 6),(ld 8 7),(zo 9 (.call (.c (.fn 55)) [.s 8])),(mv 2 9)]) .ret))
theorem e23:aO Tryz.prog 23 g23 [] [] []=some (c23,[.slot 2],10):=by kernel_rfl
def Xi:aK where
 X:=DX
 Y:=Nat->NO
 args:=fun _=>.cons (.own 0 0) .nil
 pre:=fun x=>DOk (htT x.T) x
 h0:=fun x=>tH 0 1 x.v x.N
 nx0:=2
 post:=DPo
 res:=fun x _=>.str (oI Dd x.T)
 h1:=fun x y=>tH 0 1 x.v y
 nx1:=2
theorem Xb:Xi.Ok Tryz.prog 23:=by
 refine Eng.aK.okR e23 .nil (fun x=>[(55,.m (dgS (htT x.T)))]) (fun x _=>aD.m (both (htT x.T)).1 aD.nil) ?_
 rintro ⟨N,T,v,F⟩ (hok:DOk (htT T) ⟨N,T,v,F⟩)
 refine ⟨trivial,?_⟩
 repeat' (first|apply And.intro|exact trivial|exact rfl|exact zm N rfl|exact zr N rfl rfl|exact zf|exact zh|refine zt ?_|fail)
 refine Exists.intro ⟨N,T,v,F⟩ (Exists.intro [1] ?_)
 repeat' (first|exact hok|apply And.intro|exact trivial|exact rfl|exact zm N rfl|exact zr N rfl rfl|exact zf|exact zh|refine zt ?_|fail)
 refine fun (N2:Nat->NO) (hp2:DPo ⟨N,T,v,F⟩ N2)=>?_
 repeat' (first|apply And.intro|exact trivial|exact rfl|exact zm N2 rfl|exact zr N2 rfl rfl|exact zf|exact zh|refine zt ?_|fail)
 refine Exists.intro N2 (And.intro hp2 ?_)
 repeat' (first|apply And.intro|exact trivial|exact rfl|exact zm N2 rfl|exact zr N2 rfl rfl|exact zf|exact zh|refine zt ?_|fail)
end D11
end
section
open Go Go.Eng Go.Proofs T1 T2 T3 T4 T5 T10 T11 T12 T13 T14 T16 T17 T18 T19 T26 T31 D12 D13
set_option maxRecDepth 100000
namespace T35
theorem Wx:∀ {l m:List B},Srt l->Srt m->(∀ x,x∈l ↔ x∈m)->l=m
 | [],[],_,_,_=>rfl
 | [],y::m,_,_,h=>absurd ((h y).2 List.mem_cons_self) List.not_mem_nil
 | x::l,[],_,_,h=>absurd ((h x).1 List.mem_cons_self) List.not_mem_nil
 | x::l,y::m,h1,h2,h=>by
  have k1:=List.pairwise_cons.1 h1
  have k2:=List.pairwise_cons.1 h2
  have e:x=y:=by
   rcases List.mem_cons.1 ((h x).1 List.mem_cons_self) with e|e
   ·exact e
   ·rcases List.mem_cons.1 ((h y).2 List.mem_cons_self) with f|f
    ·exact f.symm
    ·have a:=k2.1 _ e
     have b:=k1.1 _ f
     rw [W7 a] at b
     cases b
  subst e
  refine congrArg (x::·) (Wx k1.2 k2.2 fun z=>?_)
  constructor
  ·intro hz
   rcases List.mem_cons.1 ((h z).1 (List.mem_cons_of_mem _ hz)) with e|e
   ·subst e; have:=k1.1 _ hz; rw [Dj] at this; cases this
   ·exact e
  ·intro hz
   rcases List.mem_cons.1 ((h z).2 (List.mem_cons_of_mem _ hz)) with e|e
   ·subst e; have:=k2.1 _ hz; rw [Dj] at this; cases this
   ·exact e
mutual
theorem W6:∀ (T T':TT),wfT T->wfT T'->(∀ t i,eB t i T ↔ eB t i T')->T=T'
 | .node ids k,.node ids' k',w,w',h=>by
  simp only [wfT] at w w'
  have e1:ids=ids':=Wx w.1 w'.1 fun i=>by have:=h [] i; rw [fP,fP] at this; exact this
  have e2:k=k':=Wy k k' w.2.1 w'.2.1 w.2.2 w'.2.2 fun b t i=>by have:=h (b::t) i; rw [cD,cD] at this; exact this
  rw [e1,e2]
theorem Wy:∀ (k k':TK),Sb (aP k)->Sb (aP k')->wfK k->wfK k'->(∀ b t i,V8 t i b k ↔ V8 t i b k')->k=k'
 | .nil,.nil,_,_,_,_,_=>rfl
 | .nil,.cons b s r,_,_,_,w',h=>by
  simp only [wfK] at w'
  obtain ⟨t,i,hm⟩:=Cp w'.2.1 w'.1
  obtain ⟨s',e,_⟩:=(h b t i).2 ⟨s,by simp only [cC,if_pos],hm⟩
  cases e
 | .cons b s r,.nil,_,_,w,_,h=>by
  simp only [wfK] at w
  obtain ⟨t,i,hm⟩:=Cp w.2.1 w.1
  obtain ⟨s',e,_⟩:=(h b t i).1 ⟨s,by simp only [cC,if_pos],hm⟩
  cases e
 | .cons b s r,.cons b' s' r',hs,hs',w,w',h=>by
  simp only [wfK] at w w'
  simp only [aP] at hs hs'
  have p1:=List.pairwise_cons.1 hs
  have p2:=List.pairwise_cons.1 hs'
  have m1:b∈aP (.cons b' s' r'):=by
   obtain ⟨t,i,hm⟩:=Cp w.2.1 w.1
   obtain ⟨x,e,_⟩:=(h b t i).1 ⟨s,by simp only [cC,if_pos],hm⟩
   exact jN e
  have m2:b'∈aP (.cons b s r):=by
   obtain ⟨t,i,hm⟩:=Cp w'.2.1 w'.1
   obtain ⟨x,e,_⟩:=(h b' t i).2 ⟨s',by simp only [cC,if_pos],hm⟩
   exact jN e
  have e:b=b':=by
   simp only [aP,List.mem_cons] at m1 m2
   rcases m1 with e|e
   ·exact e
   ·rcases m2 with f|f
    ·exact f.symm
    ·exact absurd (p1.1 _ f) (Hb (p2.1 _ e))
  subst e
  have es:s=s':=W6 s s' w.1 w'.1 fun t i=>by
   have:=h b t i
   unfold V8 at this
   simp only [cC,if_true,Option.some.injEq,exists_eq_left'] at this
   exact this
  subst es
  have er:r=r':=Wy r r' p1.2 p2.2 w.2.2 w'.2.2 fun y t i=>by
   by_cases e:b=y
   ·subst e
    have n1:cC r b=none:=rT fun hm=>UInt8.lt_irrefl _ (p1.1 _ hm)
    have n2:cC r' b=none:=rT fun hm=>UInt8.lt_irrefl _ (p2.1 _ hm)
    unfold V8
    rw [n1,n2]
   ·have:=h y t i
    unfold V8 at this ⊢
    simp only [cC,if_neg e] at this
    exact this
  rw [er]
end
theorem Xa {T:TT} {k:Ky}:pcT T k=0 ↔ jD k.1 k.2=true/\¬ eB k.1 k.2 T/\szT T < 20000:=by
 rw [<- gN]
 unfold pcT
 cases h1:jD k.1 k.2 <;> cases h2:tG T k.1 k.2 <;> cases h3:decide (20000<=szT T) <;> simp_all <;> omega
theorem Wv:∀ (l:List Ky) {T T':TT},E9 l T=(0,T')->wfT T->wfT T'/\szT T'=szT T+l.length/\(∀ t i,eB t i T' ↔ eB t i T\/(t,i)∈l)
 | [],T,T',h,w=>by
  cases h
  exact ⟨w,rfl,fun t i=>by simp⟩
 | k::l,T,T',h,w=>by
  unfold E9 at h
  by_cases e:pcT T k=0
  ·rw [if_pos e] at h
   have hz:=Xa.1 e
   obtain ⟨h1,h2,h3⟩:=Wv l h (Nv k.1 w hz.2.1)
   refine ⟨h1,?_,fun t i=>?_⟩
   ·rw [h2,nS k.1 w,List.length_cons]; omega
   ·rw [h3,zQ k.1 w,List.mem_cons]
    obtain ⟨a,b⟩:=k
    simp only [Prod.mk.injEq]
    constructor
    ·rintro ((h|h)|h)
     ·exact .inr (.inl h)
     ·exact .inl h
     ·exact .inr (.inr h)
    ·rintro (h|h|h)
     ·exact .inl (.inr h)
     ·exact .inl (.inl h)
     ·exact .inr h
  ·rw [if_neg e] at h
   injection h with h1 _
   exact absurd h1 e
theorem Ww {l:List Ky} {T:TT} (h:T19.eZ l=(0,T)):wfT T/\szT T=l.length/\∀ t i,eB t i T ↔ (t,i)∈l:=by
 unfold T19.eZ at h
 by_cases h1:20000 < l.length
 ·rw [if_pos h1] at h; cases h
 ·rw [if_neg h1] at h
  by_cases h2:l.any lC=true
  ·rw [if_pos h2] at h; cases h
  ·rw [if_neg h2] at h
   obtain ⟨a,b,c⟩:=Wv l h sM
   refine ⟨a,by rw [b]; simp [emp,szT,szK],fun t i=>?_⟩
   rw [c]
   constructor
   ·rintro (h|h)
    ·exact absurd h zP
    ·exact h
   ·exact .inr
end T35
end
section
open Go Go.Eng Go.Proofs T1 T2 T3 T4 T5 T11 T12 T13 T14 T17 T18 T19 T23 T26 T31 T33 D3 D6 D9 D11 D12 D13 T30 T25 T35
set_option maxRecDepth 100000
namespace D14
def Xj:aK where
 X:=UX
 Y:=Nat->NO
 args:=fun _=>.cons (.own 0 0) .nil
 pre:=UOk
 h0:=fun x=>tH 0 1 x.r x.N
 nx0:=2
 post:=fun x y=>Tr Dd x.T y x.c x.r x.K
 res:=fun x _=>.str (oI Dd x.T)
 h1:=fun x y=>tH 0 1 x.r y
 nx1:=2
theorem Xf:Xj.Ok Tryz.prog 23:=by
 refine Wo Xb rfl rfl rfl ?_
 rintro x ⟨h1,h2,_⟩
 obtain ⟨F,hd,hF⟩:=h1.dok h2
 exact ⟨⟨x.N,x.T,x.r,F⟩,hd,rfl,rfl,fun y hy=>⟨y,h1.mark hF hy,rfl,rfl⟩⟩
def Xh:aK where
 X:=UX
 Y:=(Nat->NO)×ND×Bool
 args:=fun x=>.cons (.own 0 0) (.cons (.str x.p) .nil)
 pre:=UOk
 h0:=fun x=>tH 0 1 x.r x.N
 nx0:=2
 post:=fun x y=>Tr Dd x.T y.1 x.c x.r x.K/\y.2.1=ndO (cL x.p x.T)/\y.2.2=(cL x.p x.T).isSome
 res:=fun _ y=>.tup (.cons (.agg (.cons (.lsl 2 1 y.2.1.ids.length) (.cons (.str y.2.1.bys) (.cons (.lsl 3 1 y.2.1.kids.length) .nil)))) (.cons (.bool y.2.2) .nil))
 h1:=fun x y=>lsH 3 y.2.1.kids::lsH 2 y.2.1.ids::tH 0 1 x.r y.1
 nx1:=4
theorem Xe:Xh.Ok Tryz.prog 25:=by
 refine Wo Pt rfl rfl rfl ?_
 rintro x ⟨h1,h2,h3⟩
 obtain ⟨F,hd,hF⟩:=h1.dok h2
 exact ⟨⟨⟨x.N,x.T,x.r,F⟩,x.c,x.p⟩,⟨hd,h1.ok.cl,h3⟩,rfl,rfl,fun y hy=>⟨y,⟨h1.mark hF hy.1,hy.2⟩,rfl,rfl⟩⟩
end D14
end
section
namespace VO
open Go Go.Eng Go.Proofs Go.RowKit Go.ChangeShapes Go.WideShapes T1 T10 T11 T23 T24
set_option maxRecDepth 100000
def Xl:Sp:=.cons .str (.cons .str .nil)
theorem sp29:Ah Tryz.prog 8 29=some (.cons (.slice 2 Xl) .nil):=by kernel_rfl
theorem Xk {l:SV} (h:Sh Xl l):∃ q:Ky,bgK q/\∀ E vs,R E l vs->R E (oL q) vs:=by
 obtain ⟨_,_,rfl,⟨x,rfl,hx⟩,_,_,rfl,⟨y,rfl,hy⟩,rfl⟩:=h
 exact ⟨(x,y),Wh hx,fun _ _ h=>h⟩
section
variable {H:Type} {enc:TypeId×Value->H} {W:World} {base:Nat} {sp:Nat->Bool} {held:Bool} {r:Reach} {b0:Nat} {v:Value} {d:DataW H} {ps:List MemPlace}
theorem open29 (hval:Value.okWide Tryz.prog W r b0 29 v) (hd:DataW.Trod enc Tryz.prog W base sp held 29 v d ps) (hw:Light Tryz.prog 29 d):∃ l:List Ky,R (eN (Wall W) W) (ksE l) [v]/\l.length < 4611686018427387904/\∀ j,j < l.length->(l.getD j k0).1.length < 4611686018427387904:=by
 obtain ⟨a,h1,h2⟩:=Oe sp29 ⟨fun fs e=>by rw [Tryz.underlying29] at e; (cases e),fun m k e=>by rw [Tryz.underlying29] at e; (cases e)⟩ hval hd hw
 obtain ⟨l,hb,hr⟩:=P7 (d:=k0) (g:=oL) (fun _ h=>Xk h) h1
 exact ⟨l,hr _ _ h2,hb⟩
end
section
variable {H:Type} {enc:TypeId×Value->H} {P:Program} {w:World} {base:Nat} {spare:Nat->Bool} {held:Bool}
theorem Wz {t1 t2:TypeId} {args:Array Value} {ds:List (DataW H)} {ps:List MemPlace} (h:DataW.TrodAll enc P w base spare held [t1,t2] args.toList ds ps) :
  ∃ v1 v2 d1 d2 p1 p2,args=#[v1,v2]/\ds=[d1,d2]/\DataW.Trod enc P w base spare held t1 v1 d1 p1/\DataW.Trod enc P w base spare held t2 v2 d2 p2:=by
 obtain ⟨v1,vs1,d1,ds1,p1,q1,hargs,rfl,rfl,h1,r1⟩:=trodAll_cons h
 obtain ⟨v2,vs2,d2,ds2,p2,q2,rfl,rfl,rfl,h2,r2⟩:=trodAll_cons r1
 obtain ⟨rfl,rfl,rfl⟩:=trodAll_nil r2
 exact ⟨v1,v2,d1,d2,p1,p2,by cases args; simp_all,rfl,h1,h2⟩
end
end VO
end
end
section
open Go Go.Eng Go.Proofs T1 T4 T11 T13 T14 T17 T18 T23 T31 D9 D11 D12 T35
set_option maxRecDepth 100000
namespace T38
theorem Hp:∀ (p t:B) (T:TT),cL (p++t) T=(cL p T).bind (cL t)
 | [],_,_=>rfl
 | b::p,t,.node ids k=>by
  simp only [List.cons_append,cL]
  cases cC k b with
  | none=>rfl
  | some s=>exact Hp p t s
theorem Ws:∀ {k k':TK} {b:UInt8} {u:TT},uF Dd k=uF Dd k'->cC k b=some u->∃ u',cC k' b=some u'/\oI Dd u=oI Dd u'
 | .nil,_,_,_,_,h=>by cases h
 | .cons x s r,.nil,_,_,e,_=>by simp [uF] at e
 | .cons x s r,.cons x' s' r',b,u,e,h=>by
  simp only [uF,List.cons.injEq,Prod.mk.injEq] at e
  obtain ⟨⟨rfl,e1⟩,e2⟩:=e
  simp only [cC] at h ⊢
  by_cases hb:x=b
  ·rw [if_pos hb] at h ⊢
   cases h
   exact ⟨_,rfl,e1⟩
  ·rw [if_neg hb] at h ⊢
   exact Ws e2 h
theorem W5 {α β:Type}:∀ {l m:List (α×β)},l.map (·.1)=m.map (·.1)->l.map (·.2)=m.map (·.2)->l=m
 | [],[],_,_=>rfl
 | [],_::_,h,_=>by simp at h
 | _::_,[],h,_=>by simp at h
 | (a,b)::l,(c,d)::m,h1,h2=>by
  simp only [List.map_cons,List.cons.injEq] at h1 h2
  obtain ⟨rfl,h1⟩:=h1
  obtain ⟨rfl,h2⟩:=h2
  rw [W5 h1 h2]
theorem Wr {A C:TT} (wA:wfT A) {Q:B->Prop} (hQ:∀ p t i,eB (p++t) i A->Q p)
  (H:∀ p s s',Q p->cL p A=some s->cL p C=some s'->oI Dd s=oI Dd s'->ndT s=ndT s') :
  ∀ (t:B) (p:B) (s s':TT),cL p A=some s->cL p C=some s'->oI Dd s=oI Dd s'->Q p->∀ i,eB t i s->eB t i s'
 | [],p,.node ids k,.node ids' k',h1,h2,hd,hq,i,hm=>by
  have e:=congrArg ND.ids (H p _ _ hq h1 h2 hd)
  replace e:ids=ids':=e
  rw [fP] at hm ⊢
  rw [<- e]; exact hm
 | b::t,p,.node ids k,.node ids' k',h1,h2,hd,hq,i,hm=>by
  have e:=H p _ _ hq h1 h2 hd
  have e1:(uF Dd k).map (·.1)=(uF Dd k').map (·.1):=congrArg ND.bys e
  have e2:(uF Dd k).map (·.2)=(uF Dd k').map (·.2):=congrArg ND.kids e
  obtain ⟨u,hg,hmu⟩:=cD.1 hm
  obtain ⟨u',hg',hdu⟩:=Ws (W5 e1 e2) hg
  have s1:cL (p++[b]) A=some u:=by rw [Hp,h1]; simp only [Option.bind_some,cL,hg]
  have s2:cL (p++[b]) C=some u':=by rw [Hp,h2]; simp only [Option.bind_some,cL,hg']
  have hw:=F6 _ wA h1
  simp only [wfT] at hw
  have hu:=iA hg hw.2.2
  obtain ⟨t',i',hm'⟩:=Cp hu.2 hu.1
  have hq':Q (p++[b]):=hQ _ t' i' (by obtain ⟨v,e3,e4⟩:=hm'; exact ⟨v,by rw [Hp,s1]; exact e3,e4⟩)
  exact cD.2 ⟨u',hg',Wr wA hQ H t (p++[b]) u u' s1 s2 hdu hq' i hmu⟩
theorem differ {A C:TT} (wA:wfT A) (wC:wfT C) (hd:oI Dd A=oI Dd C) (hk:bS [] A≠bS [] C)
  (H:∀ k,k∈bS [] A++bS [] C->∀ n,n<=k.1.length->∀ s s',cL (k.1.take n) A=some s->cL (k.1.take n) C=some s'->oI Dd s=oI Dd s'->ndT s=ndT s'):False:=by
 obtain ⟨k0,hk0⟩:∃ k,k∈bS [] A++bS [] C:=by
  cases e:bS [] A++bS [] C with
  | nil =>
   obtain ⟨e1,e2⟩:=List.append_eq_nil_iff.1 e
   exact absurd (e1.trans e2.symm) hk
  | cons x l=>exact ⟨x,List.mem_cons_self⟩
 let Q:B->Prop:=fun p=>∃ k,k∈bS [] A++bS [] C/\∃ n,n<=k.1.length/\p=k.1.take n
 have q0:Q []:=⟨k0,hk0,0,Nat.zero_le _,rfl⟩
 have pre:∀ {T:TT},wfT T->(∀ k,k∈bS [] T->k∈bS [] A++bS [] C)->∀ p t i,eB (p++t) i T->Q p:=fun {T} w hs p t i hm =>
  ⟨(p++t,i),hs _ ((mem_keys T [] w _ _).2 ⟨p++t,rfl,hm⟩),p.length,by simp,by simp⟩
 have HA:∀ p s s',Q p->cL p A=some s->cL p C=some s'->oI Dd s=oI Dd s'->ndT s=ndT s':=by
  rintro p s s' ⟨k,hk,n,hn,rfl⟩ h1 h2 h3
  exact H k hk n hn s s' h1 h2 h3
 have HC:∀ p s s',Q p->cL p C=some s->cL p A=some s'->oI Dd s=oI Dd s'->ndT s=ndT s':=by
  rintro p s s' ⟨k,hk,n,hn,rfl⟩ h1 h2 h3
  exact (H k hk n hn s' s h2 h1 h3.symm).symm
 have e:A=C:=W6 A C wA wC fun t i =>
  ⟨Wr wA (pre wA fun _ h=>List.mem_append_left _ h) HA t [] A C rfl rfl hd q0 i,Wr wC (pre wC fun _ h=>List.mem_append_right _ h) HC t [] C A rfl rfl hd.symm q0 i⟩
 exact hk (by rw [e])
end T38
end
