/- A part of the proof. -/
import Derived.Test.YtpiolkcdfgiefaaGreatDoorD14
set_option maxHeartbeats 10000000
open Go Go.Eng Go.Proofs T1 T4 T11 T13 T14 T17 T18 T23 T31 D9 D11 D12 T35
set_option maxRecDepth 100000
namespace T38
theorem mK:∀(p t:B) (T:TT),bV (p++t) T=(bV p T).bind (bV t)
 | [],_,_=>rfl
 |b::p,t,.node ids k=>by
  simp only[gK,bV];cases dN k b with
  |none=>rfl
  |some s=>exact mK p t s
theorem Lv:∀{k k':TK} {b:UInt8} {u:TT},oX Dd k=oX Dd k'->dN k b=some u->∃u',dN k' b=some u'/\iK Dd u=iK Dd u'
 |.nil,_,_,_,_,h=>by cases h
 |.cons x s r,.nil,_,_,e,_=>by simp[oX]at e
 |.cons x s r,.cons x' s' r',b,u,e,h=>by
  simp only[oX,dZ,bX]at e;obtain⟨⟨rfl,e1⟩,e2⟩:=e;simp only[dN]at h ⊢;by_cases hb:x=b
  .grind
  .rw [if_neg hb]at h ⊢;exact Lv e2 h
theorem Re{α β:Type}:∀{l m:List (α×β)},l.map (·.1)=m.map (·.1)->l.map (·.2)=m.map (·.2)->l=m
 | [],[],_,_=>rfl
 | [],_::_,h,_=>by simp at h
 |_::_,[],h,_=>by simp at h
 | (a,b)::l,(c,d)::m,h1,h2=>by
  simp only[bK,dZ]at h1 h2;obtain⟨rfl,h1⟩:=h1;obtain⟨rfl,h2⟩:=h2;rw[Re h1 h2]
theorem E5{A C:TT}(wq1:wfT A){Q:B->Prop}(hQ:∀p t i,gO (p++t) i A->Q p)
  (H:∀p s s',Q p->bV p A=some s->bV p C=some s'->iK Dd s=iK Dd s'->ndT s=ndT s') :
  ∀(t:B) (p:B) (s s':TT),bV p A=some s->bV p C=some s'->iK Dd s=iK Dd s'->Q p->∀i,gO t i s->gO t i s'
 | [],p,.node ids k,.node ids' k',h1,h2,hd,hq,i,hm=>by
  have e:=congrArg ND.ids (H p _ _ hq h1 h2 hd);replace e:ids=ids':=e
  grind[oA]
 |b::t,p,.node ids k,.node ids' k',h1,h2,hd,hq,i,hm=>by
  have e:=H p _ _ hq h1 h2 hd;have e1:(oX Dd k).map (·.1)=(oX Dd k').map (·.1):=congrArg ND.bys e;have e2:(oX Dd k).map (·.2)=(oX Dd k').map (·.2):=congrArg ND.kids e;obtain⟨u,hg,hmu⟩:=dV.1 hm;obtain⟨u',hg',hdu⟩:=Lv (Re e1 e2) hg;have s1:bV (p++[b]) A=some u:=by grind[mK,bV]
  have s2:bV (p++[b]) C=some u':=by grind[mK,bV]
  have hw:=vC _ wq1 h1;simp only[wfT]at hw;have hu:=kZ hg hw.2.2;obtain⟨t',i',hm'⟩:=oR hu.2 hu.1;have hq':Q (p++[b]):=hQ _ t' i' (by obtain⟨v,e3,e4⟩:=hm'; exact⟨v,by grind[mK],e4⟩);exact dV.2 ⟨u',hg',E5 wq1 hQ H t (p++[b]) u u' s1 s2 hdu hq' i hmu⟩
theorem differ{A C:TT}(wq1:wfT A)(wq2:wfT C)(hd:iK Dd A=iK Dd C)(hk:bB [] A≠bB [] C)
  (H:∀k,k∈bB [] A++bB [] C->∀n,n<=k.1.length->∀s s',bV (k.1.take n) A=some s->bV (k.1.take n) C=some s'->iK Dd s=iK Dd s'->ndT s=ndT s'):False:=by
 obtain⟨k0,hk0⟩:∃k,k∈bB [] A++bB [] C:=by
  cases e:bB [] A++bB [] C with
  |nil =>
   simp_all
  |cons x l=>simp
 let Q:B->Prop:=λp=>∃k,k∈bB [] A++bB [] C/\∃n,n<=k.1.length/\p=k.1.take n;have q0:Q []:=⟨k0,hk0,0,aS _,rfl⟩;have pre:∀{T:TT},wfT T->(∀k,k∈bB [] T->k∈bB [] A++bB [] C)->∀p t i,gO (p++t) i T->Q p:=λ{T} w hs p t i hm =>
  ⟨(p++t,i),hs _ ((mem_keys T [] w _ _).2 ⟨p++t,rfl,hm⟩),p.length,by simp,by simp⟩
 have HA:∀p s s',Q p->bV p A=some s->bV p C=some s'->iK Dd s=iK Dd s'->ndT s=ndT s':=by
  rintro p s s' ⟨k,hk,n,hn,rfl⟩ h1 h2 h3
  grind
 have HC:∀p s s',Q p->bV p C=some s->bV p A=some s'->iK Dd s=iK Dd s'->ndT s=ndT s':=by
  rintro p s s' ⟨k,hk,n,hn,rfl⟩ h1 h2 h3
  grind
 have e:A=C:=Vi A C wq1 wq2 λt i =>
  ⟨E5 wq1 (pre wq1 λ_ h=>dY _ h) HA t [] A C rfl rfl hd q0 i,E5 wq2 (pre wq2 λ_ h=>iM _ h) HC t [] C A rfl rfl hd.symm q0 i⟩
 grind
end T38
