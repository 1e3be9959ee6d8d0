/- A part of the proof. -/
import Derived.Test.YtpiolkcdfgiefaaGreatDoorX8
import Derived.Test.YtpiolkcdfgiefaaGreatDoorD14
open Go Go.Eng Go.Proofs T1 T4 T11 T13 T14 T17 T18 T23 T31 D9 D11 D12 T35
set_option maxRecDepth 100000
namespace T38
theorem Hp:∀ (p t:B) (T:TT),cL (p++t) T=(cL p T).bind (cL t)
 | [],_,_=>rfl
 | b::p,t,.node ids k=>by
  simp only [List.cons_append,cL]
  cases cC k b with
  | none=>rfl
  | some s=>exact Hp p t s
theorem W6:∀ {k k':TK} {b:UInt8} {u:TT},uF Dd k=uF Dd k'->cC k b=some u->∃ u',cC k' b=some u'/\oI Dd u=oI Dd u'
 | .nil,_,_,_,_,h=>by cases h
 | .cons x s r,.nil,_,_,e,_=>by simp [uF] at e
 | .cons x s r,.cons x' s' r',b,u,e,h=>by
  simp only [uF,List.cons.injEq,Prod.mk.injEq] at e
  obtain ⟨⟨rfl,e1⟩,e2⟩:=e
  simp only [cC] at h ⊢
  by_cases hb:x=b
  ·rw [if_pos hb] at h ⊢
   cases h
   exact ⟨_,rfl,e1⟩
  ·rw [if_neg hb] at h ⊢
   exact W6 e2 h
theorem Xh {α β:Type}:∀ {l m:List (α×β)},l.map (·.1)=m.map (·.1)->l.map (·.2)=m.map (·.2)->l=m
 | [],[],_,_=>rfl
 | [],_::_,h,_=>by simp at h
 | _::_,[],h,_=>by simp at h
 | (a,b)::l,(c,d)::m,h1,h2=>by
  simp only [List.map_cons,List.cons.injEq] at h1 h2
  obtain ⟨rfl,h1⟩:=h1
  obtain ⟨rfl,h2⟩:=h2
  rw [Xh h1 h2]
theorem Wv {A C:TT} (wq1:wfT A) {Q:B->Prop} (hQ:∀ p t i,eB (p++t) i A->Q p)
  (H:∀ p s s',Q p->cL p A=some s->cL p C=some s'->oI Dd s=oI Dd s'->ndT s=ndT s') :
  ∀ (t:B) (p:B) (s s':TT),cL p A=some s->cL p C=some s'->oI Dd s=oI Dd s'->Q p->∀ i,eB t i s->eB t i s'
 | [],p,.node ids k,.node ids' k',h1,h2,hd,hq,i,hm=>by
  have e:=congrArg ND.ids (H p _ _ hq h1 h2 hd)
  replace e:ids=ids':=e
  rw [fP] at hm ⊢
  rw [<- e]; exact hm
 | b::t,p,.node ids k,.node ids' k',h1,h2,hd,hq,i,hm=>by
  have e:=H p _ _ hq h1 h2 hd
  have e1:(uF Dd k).map (·.1)=(uF Dd k').map (·.1):=congrArg ND.bys e
  have e2:(uF Dd k).map (·.2)=(uF Dd k').map (·.2):=congrArg ND.kids e
  obtain ⟨u,hg,hmu⟩:=cD.1 hm
  obtain ⟨u',hg',hdu⟩:=W6 (Xh e1 e2) hg
  have s1:cL (p++[b]) A=some u:=by rw [Hp,h1]; simp only [Option.bind_some,cL,hg]
  have s2:cL (p++[b]) C=some u':=by rw [Hp,h2]; simp only [Option.bind_some,cL,hg']
  have hw:=F6 _ wq1 h1
  simp only [wfT] at hw
  have hu:=iA hg hw.2.2
  obtain ⟨t',i',hm'⟩:=Cp hu.2 hu.1
  have hq':Q (p++[b]):=hQ _ t' i' (by obtain ⟨v,e3,e4⟩:=hm'; exact ⟨v,by rw [Hp,s1]; exact e3,e4⟩)
  exact cD.2 ⟨u',hg',Wv wq1 hQ H t (p++[b]) u u' s1 s2 hdu hq' i hmu⟩
theorem differ {A C:TT} (wq1:wfT A) (wq2:wfT C) (hd:oI Dd A=oI Dd C) (hk:bS [] A≠bS [] C)
  (H:∀ k,k∈bS [] A++bS [] C->∀ n,n<=k.1.length->∀ s s',cL (k.1.take n) A=some s->cL (k.1.take n) C=some s'->oI Dd s=oI Dd s'->ndT s=ndT s'):False:=by
 obtain ⟨k0,hk0⟩:∃ k,k∈bS [] A++bS [] C:=by
  cases e:bS [] A++bS [] C with
  | nil =>
   obtain ⟨e1,e2⟩:=List.append_eq_nil_iff.1 e
   exact absurd (e1.trans e2.symm) hk
  | cons x l=>exact ⟨x,List.mem_cons_self⟩
 let Q:B->Prop:=fun p=>∃ k,k∈bS [] A++bS [] C/\∃ n,n<=k.1.length/\p=k.1.take n
 have q0:Q []:=⟨k0,hk0,0,Nat.zero_le _,rfl⟩
 have pre:∀ {T:TT},wfT T->(∀ k,k∈bS [] T->k∈bS [] A++bS [] C)->∀ p t i,eB (p++t) i T->Q p:=fun {T} w hs p t i hm =>
  ⟨(p++t,i),hs _ ((mem_keys T [] w _ _).2 ⟨p++t,rfl,hm⟩),p.length,by simp,by simp⟩
 have HA:∀ p s s',Q p->cL p A=some s->cL p C=some s'->oI Dd s=oI Dd s'->ndT s=ndT s':=by
  rintro p s s' ⟨k,hk,n,hn,rfl⟩ h1 h2 h3
  exact H k hk n hn s s' h1 h2 h3
 have HC:∀ p s s',Q p->cL p C=some s->cL p A=some s'->oI Dd s=oI Dd s'->ndT s=ndT s':=by
  rintro p s s' ⟨k,hk,n,hn,rfl⟩ h1 h2 h3
  exact (H k hk n hn s' s h2 h1 h3.symm).symm
 have e:A=C:=Xo A C wq1 wq2 fun t i =>
  ⟨Wv wq1 (pre wq1 fun _ h=>List.mem_append_left _ h) HA t [] A C rfl rfl hd q0 i,Wv wq2 (pre wq2 fun _ h=>List.mem_append_right _ h) HC t [] C A rfl rfl hd.symm q0 i⟩
 exact hk (by rw [e])
end T38
